/- A closed fact on the row of ArenaSwept. -/
import Derived.Test.YtdeneoknjeegbaaDoorRows
import Derived.JoinedCond
import Derived.JoinedOf
import Derived.KernelRfl
namespace Go.Proofs.YtdeneoknjeegbaaDoor.arenaSwept
set_option maxRecDepth 100000 in
set_option maxHeartbeats 4000000 in
theorem closed : joinedFacts Tryd.pinned.checked.prog 4 Tryd.f4 (OpenSpec.ofChange Rows.arenaSweptSpec).bare Rows.arenaSweptRow = true := of_decide_eq_true (by kernel_rfl)
end Go.Proofs.YtdeneoknjeegbaaDoor.arenaSwept
