/- A closed fact on the row of PtreeErrs. -/
import Derived.Test.YtdeneoknjeegbaaDoorRows
import Derived.JoinedCond
import Derived.JoinedOf
import Derived.KernelRfl
namespace Go.Proofs.YtdeneoknjeegbaaDoor.ptreeErrs
set_option maxRecDepth 100000 in
set_option maxHeartbeats 4000000 in
theorem closed : joinedFacts Tryd.pinned.checked.prog 5 Tryd.f5 (OpenSpec.ofChange Rows.ptreeErrsSpec).bare Rows.ptreeErrsRow = true := of_decide_eq_true (by kernel_rfl)
end Go.Proofs.YtdeneoknjeegbaaDoor.ptreeErrs
