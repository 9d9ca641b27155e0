/-
  DERIVED. GIVEN WITH THE SEED: THE CARDS: each row of YtdeneoknjeegbaaDoorRows.lean that lists a variable, with what it lists TIED to the program's text (the seventh form; the later family's looks); each row that meets fmt, with fmt's text TOLD by the authors' own Lean function (tested against real Go, not proved from fmt's source: count such statements apart). THE CARD IS WHAT COUNTS. Prove the row's statement (the work); the ties are given (YtdeneoknjeegbaaDoorTie.lean); close each card by the builder's one call (the guide's Derived/Test/ToyasCard.lean, 'card_holds'). Laid BY PROGRAM, IN A SANDBOX (cutbox-door.mjs). By AI agents, Wed Nov 11 2026. No macro, syntax, notation, axiom, sorry.
-/
import Derived.Test.YtdeneoknjeegbaaDoorRows
import GoSem.ClaimSeven
namespace Go.Proofs.YtdeneoknjeegbaaDoor
namespace Rows

/-- THE TIED CARD OF 'annalslaw09.ArenaLives'. -/
def arenaLivesCard : Claim7 := { stood := { row := arenaLivesRow, standIns := [], harness := (true, "633c79a8f6e29382407cb9519838acde94481b5c7a4e26111737395deb6537f2"), looks := true }, kinds := [], alts := [], laidByText := true, laidKinds := [.data, .data], laidTests := true, laidLooks := .later }
def ArenaLivesCardSaid : Prop := Claim7.holds Tryd.pinned (.plain (OpenSpec.ofChange arenaLivesSpec)) arenaLivesCard

/-- THE TIED CARD OF 'annalslaw09.ArenaSwept'. -/
def arenaSweptCard : Claim7 := { stood := { row := arenaSweptRow, standIns := [], harness := (true, "633c79a8f6e29382407cb9519838acde94481b5c7a4e26111737395deb6537f2"), looks := true }, kinds := [], alts := [], laidByText := true, laidKinds := [.data, .data], laidTests := true, laidLooks := .later }
def ArenaSweptCardSaid : Prop := Claim7.holds Tryd.pinned (.plain (OpenSpec.ofChange arenaSweptSpec)) arenaSweptCard

/-- THE TIED CARD OF 'annalslaw10.PtreeErrs'. -/
def ptreeErrsCard : Claim7 := { stood := { row := ptreeErrsRow, standIns := [], harness := (true, "633c79a8f6e29382407cb9519838acde94481b5c7a4e26111737395deb6537f2"), looks := true }, kinds := [], alts := [], laidByText := true, laidKinds := [.data, .data], laidTests := true, laidLooks := .later }
def PtreeErrsCardSaid : Prop := Claim7.holds Tryd.pinned (.plain (OpenSpec.ofChange ptreeErrsSpec)) ptreeErrsCard

/-- THE TIED CARD OF 'annalslaw10.PtreeOrder'. -/
def ptreeOrderCard : Claim7 := { stood := { row := ptreeOrderRow, standIns := [], harness := (true, "633c79a8f6e29382407cb9519838acde94481b5c7a4e26111737395deb6537f2"), looks := true }, kinds := [], alts := [], laidByText := true, laidKinds := [.data, .data], laidTests := true, laidLooks := .later }
def PtreeOrderCardSaid : Prop := Claim7.holds Tryd.pinned (.plain (OpenSpec.ofChange ptreeOrderSpec)) ptreeOrderCard

/-- THE TIED CARD OF 'annalslaw10.PtreeStays'. -/
def ptreeStaysCard : Claim7 := { stood := { row := ptreeStaysRow, standIns := [], harness := (true, "633c79a8f6e29382407cb9519838acde94481b5c7a4e26111737395deb6537f2"), looks := true }, kinds := [], alts := [], laidByText := true, laidKinds := [.data, .data], laidTests := true, laidLooks := .later }
def PtreeStaysCardSaid : Prop := Claim7.holds Tryd.pinned (.plain (OpenSpec.ofChange ptreeStaysSpec)) ptreeStaysCard

/-- THE SECOND FORM's CARD OF 'annalslaw09.ArenaLives'. -/
def arenaLivesUptoCard : Claim7 := { stood := { row := arenaLivesUptoRow, standIns := [], harness := (true, "633c79a8f6e29382407cb9519838acde94481b5c7a4e26111737395deb6537f2"), looks := true }, kinds := [], alts := [], laidByText := true, laidKinds := [.data, .data], laidTests := true, laidLooks := .later }
def ArenaLivesUptoCardSaid : Prop := Claim7.holds Tryd.pinned (.plain (OpenSpec.upto arenaLivesSpec)) arenaLivesUptoCard

/-- THE SECOND FORM's CARD OF 'annalslaw09.ArenaSwept'. -/
def arenaSweptUptoCard : Claim7 := { stood := { row := arenaSweptUptoRow, standIns := [], harness := (true, "633c79a8f6e29382407cb9519838acde94481b5c7a4e26111737395deb6537f2"), looks := true }, kinds := [], alts := [], laidByText := true, laidKinds := [.data, .data], laidTests := true, laidLooks := .later }
def ArenaSweptUptoCardSaid : Prop := Claim7.holds Tryd.pinned (.plain (OpenSpec.upto arenaSweptSpec)) arenaSweptUptoCard

/-- THE SECOND FORM's CARD OF 'annalslaw10.PtreeErrs'. -/
def ptreeErrsUptoCard : Claim7 := { stood := { row := ptreeErrsUptoRow, standIns := [], harness := (true, "633c79a8f6e29382407cb9519838acde94481b5c7a4e26111737395deb6537f2"), looks := true }, kinds := [], alts := [], laidByText := true, laidKinds := [.data, .data], laidTests := true, laidLooks := .later }
def PtreeErrsUptoCardSaid : Prop := Claim7.holds Tryd.pinned (.plain (OpenSpec.upto ptreeErrsSpec)) ptreeErrsUptoCard

/-- THE SECOND FORM's CARD OF 'annalslaw10.PtreeOrder'. -/
def ptreeOrderUptoCard : Claim7 := { stood := { row := ptreeOrderUptoRow, standIns := [], harness := (true, "633c79a8f6e29382407cb9519838acde94481b5c7a4e26111737395deb6537f2"), looks := true }, kinds := [], alts := [], laidByText := true, laidKinds := [.data, .data], laidTests := true, laidLooks := .later }
def PtreeOrderUptoCardSaid : Prop := Claim7.holds Tryd.pinned (.plain (OpenSpec.upto ptreeOrderSpec)) ptreeOrderUptoCard

/-- THE SECOND FORM's CARD OF 'annalslaw10.PtreeStays'. -/
def ptreeStaysUptoCard : Claim7 := { stood := { row := ptreeStaysUptoRow, standIns := [], harness := (true, "633c79a8f6e29382407cb9519838acde94481b5c7a4e26111737395deb6537f2"), looks := true }, kinds := [], alts := [], laidByText := true, laidKinds := [.data, .data], laidTests := true, laidLooks := .later }
def PtreeStaysUptoCardSaid : Prop := Claim7.holds Tryd.pinned (.plain (OpenSpec.upto ptreeStaysSpec)) ptreeStaysUptoCard
end Rows
end Go.Proofs.YtdeneoknjeegbaaDoor
