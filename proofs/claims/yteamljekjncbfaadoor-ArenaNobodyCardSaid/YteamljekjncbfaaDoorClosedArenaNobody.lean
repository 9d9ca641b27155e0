/- A closed fact on the row of ArenaNobody. -/
import Derived.Test.YteamljekjncbfaaDoorRows
import Derived.JoinedCond
import Derived.JoinedOf
import Derived.KernelRfl
namespace Go.Proofs.YteamljekjncbfaaDoor.arenaNobody
set_option maxRecDepth 100000 in
set_option maxHeartbeats 4000000 in
theorem closed : joinedFacts Tryd.pinned.checked.prog 8 Tryd.f8 (OpenSpec.ofChange Rows.arenaNobodySpec).bare Rows.arenaNobodyRow = true := of_decide_eq_true (by kernel_rfl)
end Go.Proofs.YteamljekjncbfaaDoor.arenaNobody
