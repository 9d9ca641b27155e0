/-
  DERIVED. GIVEN WITH THE SEED: THE CARDS: each row of YtdeneoknjeegbaaGreatDoorRows.lean that lists a variable, with what it lists TIED to the program's text (the seventh form; the later family's looks); each row that meets fmt, with fmt's text TOLD by the authors' own Lean function (tested against real Go, not proved from fmt's source: count such statements apart). THE CARD IS WHAT COUNTS. Prove the row's statement (the work); the ties are given (YtdeneoknjeegbaaGreatDoorTie.lean); close each card by the builder's one call (the guide's Derived/Test/ToyasCard.lean, 'card_holds'). Laid BY PROGRAM, IN A SANDBOX (cutbox-door.mjs). By AI agents, Wed Nov 11 2026. No macro, syntax, notation, axiom, sorry.
-/
import Derived.Test.YtdeneoknjeegbaaGreatDoorRows
import GoSem.ClaimSeven
namespace Go.Proofs.YtdeneoknjeegbaaGreatDoor
namespace Rows

/-- THE TIED CARD OF 'annalslaw10.PtreeLives'. -/
def ptreeLivesCard : Claim7 := { stood := { row := ptreeLivesRow, standIns := [], harness := (true, "cc83737bf21d1a3493c09a9175624b2443d634cae89846f2066de70ef9d59bd5"), looks := true }, kinds := [], alts := [], laidByText := true, laidKinds := [.data, .data], laidTests := true, laidLooks := .later }
def PtreeLivesCardSaid : Prop := Claim7.holds Tryz.pinned (.plain (OpenSpec.ofChange ptreeLivesSpec)) ptreeLivesCard

/-- THE SECOND FORM's CARD OF 'annalslaw10.PtreeLives'. -/
def ptreeLivesUptoCard : Claim7 := { stood := { row := ptreeLivesUptoRow, standIns := [], harness := (true, "cc83737bf21d1a3493c09a9175624b2443d634cae89846f2066de70ef9d59bd5"), looks := true }, kinds := [], alts := [], laidByText := true, laidKinds := [.data, .data], laidTests := true, laidLooks := .later }
def PtreeLivesUptoCardSaid : Prop := Claim7.holds Tryz.pinned (.plain (OpenSpec.upto ptreeLivesSpec)) ptreeLivesUptoCard
end Rows
end Go.Proofs.YtdeneoknjeegbaaGreatDoor
