/- A closed fact on the row of ArenaLives. -/
import Derived.Test.YtdeneoknjeegbaaDoorRows
import Derived.JoinedCond
import Derived.JoinedOf
import Derived.KernelRfl
namespace Go.Proofs.YtdeneoknjeegbaaDoor.arenaLives
set_option maxRecDepth 100000 in
set_option maxHeartbeats 4000000 in
theorem closed : joinedFacts Tryd.pinned.checked.prog 3 Tryd.f3 (OpenSpec.ofChange Rows.arenaLivesSpec).bare Rows.arenaLivesRow = true := of_decide_eq_true (by kernel_rfl)
end Go.Proofs.YtdeneoknjeegbaaDoor.arenaLives
