/- A closed fact on the row of SeekAny. -/
import Derived.Test.YteamljekjncbfaaDoorRows
import Derived.JoinedCond
import Derived.JoinedOf
import Derived.KernelRfl
namespace Go.Proofs.YteamljekjncbfaaDoor.seekAny
set_option maxRecDepth 100000 in
set_option maxHeartbeats 4000000 in
theorem closed : joinedFacts Tryd.pinned.checked.prog 11 Tryd.f11 (OpenSpec.ofChange Rows.seekAnySpec).bare Rows.seekAnyRow = true := of_decide_eq_true (by kernel_rfl)
end Go.Proofs.YteamljekjncbfaaDoor.seekAny
