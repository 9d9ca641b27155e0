/- A closed fact on the row of PtreeLives. -/
import Derived.Test.YtdeneoknjeegbaaGreatDoorRows
import Derived.JoinedCond
import Derived.JoinedOf
import Derived.KernelRfl
namespace Go.Proofs.YtdeneoknjeegbaaGreatDoor.ptreeLives
set_option maxRecDepth 100000 in
set_option maxHeartbeats 4000000 in
theorem closed : joinedFacts Tryz.pinned.checked.prog 3 Tryz.f3 (OpenSpec.ofChange Rows.ptreeLivesSpec).bare Rows.ptreeLivesRow = true := of_decide_eq_true (by kernel_rfl)
end Go.Proofs.YtdeneoknjeegbaaGreatDoor.ptreeLives
