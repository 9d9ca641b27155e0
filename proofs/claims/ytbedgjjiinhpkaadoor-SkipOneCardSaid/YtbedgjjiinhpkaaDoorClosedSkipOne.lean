/- A closed fact on the row of SkipOne. -/
import Derived.Test.YtbedgjjiinhpkaaDoorRows
import Derived.JoinedCond
import Derived.JoinedOf
import Derived.KernelRfl
namespace Go.Proofs.YtbedgjjiinhpkaaDoor.skipOne
set_option maxRecDepth 100000 in
set_option maxHeartbeats 4000000 in
theorem closed : joinedFacts Tryd.pinned.checked.prog 7 Tryd.f7 (OpenSpec.ofChange Rows.skipOneSpec).bare Rows.skipOneRow = true := of_decide_eq_true (by kernel_rfl)
end Go.Proofs.YtbedgjjiinhpkaaDoor.skipOne
