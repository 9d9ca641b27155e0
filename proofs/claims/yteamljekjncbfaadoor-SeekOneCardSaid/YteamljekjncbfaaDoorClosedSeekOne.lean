/- A closed fact on the row of SeekOne. -/
import Derived.Test.YteamljekjncbfaaDoorRows
import Derived.JoinedCond
import Derived.JoinedOf
import Derived.KernelRfl
namespace Go.Proofs.YteamljekjncbfaaDoor.seekOne
set_option maxRecDepth 100000 in
set_option maxHeartbeats 4000000 in
theorem closed : joinedFacts Tryd.pinned.checked.prog 12 Tryd.f12 (OpenSpec.ofChange Rows.seekOneSpec).bare Rows.seekOneRow = true := of_decide_eq_true (by kernel_rfl)
end Go.Proofs.YteamljekjncbfaaDoor.seekOne
