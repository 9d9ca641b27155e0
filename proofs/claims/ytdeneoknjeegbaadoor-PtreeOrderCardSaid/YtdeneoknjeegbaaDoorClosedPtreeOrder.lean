/- A closed fact on the row of PtreeOrder. -/
import Derived.Test.YtdeneoknjeegbaaDoorRows
import Derived.JoinedCond
import Derived.JoinedOf
import Derived.KernelRfl
namespace Go.Proofs.YtdeneoknjeegbaaDoor.ptreeOrder
set_option maxRecDepth 100000 in
set_option maxHeartbeats 4000000 in
theorem closed : joinedFacts Tryd.pinned.checked.prog 6 Tryd.f6 (OpenSpec.ofChange Rows.ptreeOrderSpec).bare Rows.ptreeOrderRow = true := of_decide_eq_true (by kernel_rfl)
end Go.Proofs.YtdeneoknjeegbaaDoor.ptreeOrder
