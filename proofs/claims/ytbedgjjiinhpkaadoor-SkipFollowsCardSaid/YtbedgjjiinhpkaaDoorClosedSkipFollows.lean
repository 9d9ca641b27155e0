/- A closed fact on the row of SkipFollows. -/
import Derived.Test.YtbedgjjiinhpkaaDoorRows
import Derived.JoinedCond
import Derived.JoinedOf
import Derived.KernelRfl
namespace Go.Proofs.YtbedgjjiinhpkaaDoor.skipFollows
set_option maxRecDepth 100000 in
set_option maxHeartbeats 4000000 in
theorem closed : joinedFacts Tryd.pinned.checked.prog 6 Tryd.f6 (OpenSpec.ofChange Rows.skipFollowsSpec).bare Rows.skipFollowsRow = true := of_decide_eq_true (by kernel_rfl)
end Go.Proofs.YtbedgjjiinhpkaaDoor.skipFollows
