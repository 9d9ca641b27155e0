/-
  DERIVED. GIVEN WITH THE SEED: THE CARDS: each row of YteamljekjncbfaaDoorRows.lean that lists a variable, with what it lists TIED to the program's text (the seventh form; the later family's looks); each row that meets fmt, with fmt's text TOLD by the authors' own Lean function (tested against real Go, not proved from fmt's source: count such statements apart). THE CARD IS WHAT COUNTS. Prove the row's statement (the work); the ties are given (YteamljekjncbfaaDoorTie.lean); close each card by the builder's one call (the guide's Derived/Test/ToyasCard.lean, 'card_holds'). Laid BY PROGRAM, IN A SANDBOX (cutbox-door.mjs). By AI agents, Wed Nov 11 2026. No macro, syntax, notation, axiom, sorry.
-/
import Derived.Test.YteamljekjncbfaaDoorRows
import GoSem.ClaimSeven
namespace Go.Proofs.YteamljekjncbfaaDoor
namespace Rows

/-- THE TIED CARD OF 'annalslaw14.SkipWays'. -/
def skipWaysCard : Claim7 := { stood := { row := skipWaysRow, standIns := [], harness := (true, "6b30bc11d9a4da1cf016def134e93cc30d53b185f1d5c3ae72f1dea3600f61a5"), looks := true }, kinds := [], alts := [], laidByText := true, laidKinds := [.data, .data], laidTests := true, laidLooks := .later }
def SkipWaysCardSaid : Prop := Claim7.holds Tryd.pinned (.plain (OpenSpec.ofChange skipWaysSpec)) skipWaysCard

/-- THE TIED CARD OF 'annalslaw14.SkipShort'. -/
def skipShortCard : Claim7 := { stood := { row := skipShortRow, standIns := [], harness := (true, "6b30bc11d9a4da1cf016def134e93cc30d53b185f1d5c3ae72f1dea3600f61a5"), looks := true }, kinds := [], alts := [], laidByText := true, laidKinds := [.data, .data], laidTests := true, laidLooks := .later }
def SkipShortCardSaid : Prop := Claim7.holds Tryd.pinned (.plain (OpenSpec.ofChange skipShortSpec)) skipShortCard

/-- THE TIED CARD OF 'annalslaw09.ArenaHashes'. -/
def arenaHashesCard : Claim7 := { stood := { row := arenaHashesRow, standIns := [], harness := (true, "6b30bc11d9a4da1cf016def134e93cc30d53b185f1d5c3ae72f1dea3600f61a5"), looks := true }, kinds := [], alts := [], laidByText := true, laidKinds := [.data, .data], laidTests := true, laidLooks := .later }
def ArenaHashesCardSaid : Prop := Claim7.holds Tryd.pinned (.plain (OpenSpec.ofChange arenaHashesSpec)) arenaHashesCard

/-- THE TIED CARD OF 'annalslaw14.SkipFollows'. -/
def skipFollowsCard : Claim7 := { stood := { row := skipFollowsRow, standIns := [], harness := (true, "6b30bc11d9a4da1cf016def134e93cc30d53b185f1d5c3ae72f1dea3600f61a5"), looks := true }, kinds := [], alts := [], laidByText := true, laidKinds := [.data, .data, .data, .data], laidTests := true, laidLooks := .later }
def SkipFollowsCardSaid : Prop := Claim7.holds Tryd.pinned (.plain (OpenSpec.ofChange skipFollowsSpec)) skipFollowsCard

/-- THE TIED CARD OF 'annalslaw14.SkipOne'. -/
def skipOneCard : Claim7 := { stood := { row := skipOneRow, standIns := [], harness := (true, "6b30bc11d9a4da1cf016def134e93cc30d53b185f1d5c3ae72f1dea3600f61a5"), looks := true }, kinds := [], alts := [], laidByText := true, laidKinds := [.data, .data, .data, .data], laidTests := true, laidLooks := .later }
def SkipOneCardSaid : Prop := Claim7.holds Tryd.pinned (.plain (OpenSpec.ofChange skipOneSpec)) skipOneCard

/-- THE TIED CARD OF 'annalslaw09.ArenaNobody'. -/
def arenaNobodyCard : Claim7 := { stood := { row := arenaNobodyRow, standIns := [], harness := (true, "6b30bc11d9a4da1cf016def134e93cc30d53b185f1d5c3ae72f1dea3600f61a5"), looks := true }, kinds := [], alts := [], laidByText := true, laidKinds := [.data, .data], laidTests := true, laidLooks := .later }
def ArenaNobodyCardSaid : Prop := Claim7.holds Tryd.pinned (.plain (OpenSpec.ofChange arenaNobodySpec)) arenaNobodyCard

/-- THE TIED CARD OF 'annalslaw09.ArenaLives'. -/
def arenaLivesCard : Claim7 := { stood := { row := arenaLivesRow, standIns := [], harness := (true, "6b30bc11d9a4da1cf016def134e93cc30d53b185f1d5c3ae72f1dea3600f61a5"), looks := true }, kinds := [], alts := [], laidByText := true, laidKinds := [.data, .data], laidTests := true, laidLooks := .later }
def ArenaLivesCardSaid : Prop := Claim7.holds Tryd.pinned (.plain (OpenSpec.ofChange arenaLivesSpec)) arenaLivesCard

/-- THE TIED CARD OF 'annalslaw09.ArenaSwept'. -/
def arenaSweptCard : Claim7 := { stood := { row := arenaSweptRow, standIns := [], harness := (true, "6b30bc11d9a4da1cf016def134e93cc30d53b185f1d5c3ae72f1dea3600f61a5"), looks := true }, kinds := [], alts := [], laidByText := true, laidKinds := [.data, .data], laidTests := true, laidLooks := .later }
def ArenaSweptCardSaid : Prop := Claim7.holds Tryd.pinned (.plain (OpenSpec.ofChange arenaSweptSpec)) arenaSweptCard

/-- THE TIED CARD OF 'annalslaw20.SeekAny'. -/
def seekAnyCard : Claim7 := { stood := { row := seekAnyRow, standIns := [], harness := (true, "6b30bc11d9a4da1cf016def134e93cc30d53b185f1d5c3ae72f1dea3600f61a5"), looks := true }, kinds := [], alts := [], laidByText := true, laidKinds := [.data, .data, .data, .data], laidTests := true, laidLooks := .later }
def SeekAnyCardSaid : Prop := Claim7.holds Tryd.pinned (.plain (OpenSpec.ofChange seekAnySpec)) seekAnyCard

/-- THE TIED CARD OF 'annalslaw20.SeekOne'. -/
def seekOneCard : Claim7 := { stood := { row := seekOneRow, standIns := [], harness := (true, "6b30bc11d9a4da1cf016def134e93cc30d53b185f1d5c3ae72f1dea3600f61a5"), looks := true }, kinds := [], alts := [], laidByText := true, laidKinds := [.data, .data, .data, .data], laidTests := true, laidLooks := .later }
def SeekOneCardSaid : Prop := Claim7.holds Tryd.pinned (.plain (OpenSpec.ofChange seekOneSpec)) seekOneCard

/-- THE SECOND FORM's CARD OF 'annalslaw14.SkipWays'. -/
def skipWaysUptoCard : Claim7 := { stood := { row := skipWaysUptoRow, standIns := [], harness := (true, "6b30bc11d9a4da1cf016def134e93cc30d53b185f1d5c3ae72f1dea3600f61a5"), looks := true }, kinds := [], alts := [], laidByText := true, laidKinds := [.data, .data], laidTests := true, laidLooks := .later }
def SkipWaysUptoCardSaid : Prop := Claim7.holds Tryd.pinned (.plain (OpenSpec.upto skipWaysSpec)) skipWaysUptoCard

/-- THE SECOND FORM's CARD OF 'annalslaw14.SkipShort'. -/
def skipShortUptoCard : Claim7 := { stood := { row := skipShortUptoRow, standIns := [], harness := (true, "6b30bc11d9a4da1cf016def134e93cc30d53b185f1d5c3ae72f1dea3600f61a5"), looks := true }, kinds := [], alts := [], laidByText := true, laidKinds := [.data, .data], laidTests := true, laidLooks := .later }
def SkipShortUptoCardSaid : Prop := Claim7.holds Tryd.pinned (.plain (OpenSpec.upto skipShortSpec)) skipShortUptoCard

/-- THE SECOND FORM's CARD OF 'annalslaw09.ArenaHashes'. -/
def arenaHashesUptoCard : Claim7 := { stood := { row := arenaHashesUptoRow, standIns := [], harness := (true, "6b30bc11d9a4da1cf016def134e93cc30d53b185f1d5c3ae72f1dea3600f61a5"), looks := true }, kinds := [], alts := [], laidByText := true, laidKinds := [.data, .data], laidTests := true, laidLooks := .later }
def ArenaHashesUptoCardSaid : Prop := Claim7.holds Tryd.pinned (.plain (OpenSpec.upto arenaHashesSpec)) arenaHashesUptoCard

/-- THE SECOND FORM's CARD OF 'annalslaw14.SkipFollows'. -/
def skipFollowsUptoCard : Claim7 := { stood := { row := skipFollowsUptoRow, standIns := [], harness := (true, "6b30bc11d9a4da1cf016def134e93cc30d53b185f1d5c3ae72f1dea3600f61a5"), looks := true }, kinds := [], alts := [], laidByText := true, laidKinds := [.data, .data, .data, .data], laidTests := true, laidLooks := .later }
def SkipFollowsUptoCardSaid : Prop := Claim7.holds Tryd.pinned (.plain (OpenSpec.upto skipFollowsSpec)) skipFollowsUptoCard

/-- THE SECOND FORM's CARD OF 'annalslaw14.SkipOne'. -/
def skipOneUptoCard : Claim7 := { stood := { row := skipOneUptoRow, standIns := [], harness := (true, "6b30bc11d9a4da1cf016def134e93cc30d53b185f1d5c3ae72f1dea3600f61a5"), looks := true }, kinds := [], alts := [], laidByText := true, laidKinds := [.data, .data, .data, .data], laidTests := true, laidLooks := .later }
def SkipOneUptoCardSaid : Prop := Claim7.holds Tryd.pinned (.plain (OpenSpec.upto skipOneSpec)) skipOneUptoCard

/-- THE SECOND FORM's CARD OF 'annalslaw09.ArenaNobody'. -/
def arenaNobodyUptoCard : Claim7 := { stood := { row := arenaNobodyUptoRow, standIns := [], harness := (true, "6b30bc11d9a4da1cf016def134e93cc30d53b185f1d5c3ae72f1dea3600f61a5"), looks := true }, kinds := [], alts := [], laidByText := true, laidKinds := [.data, .data], laidTests := true, laidLooks := .later }
def ArenaNobodyUptoCardSaid : Prop := Claim7.holds Tryd.pinned (.plain (OpenSpec.upto arenaNobodySpec)) arenaNobodyUptoCard

/-- THE SECOND FORM's CARD OF 'annalslaw09.ArenaLives'. -/
def arenaLivesUptoCard : Claim7 := { stood := { row := arenaLivesUptoRow, standIns := [], harness := (true, "6b30bc11d9a4da1cf016def134e93cc30d53b185f1d5c3ae72f1dea3600f61a5"), looks := true }, kinds := [], alts := [], laidByText := true, laidKinds := [.data, .data], laidTests := true, laidLooks := .later }
def ArenaLivesUptoCardSaid : Prop := Claim7.holds Tryd.pinned (.plain (OpenSpec.upto arenaLivesSpec)) arenaLivesUptoCard

/-- THE SECOND FORM's CARD OF 'annalslaw09.ArenaSwept'. -/
def arenaSweptUptoCard : Claim7 := { stood := { row := arenaSweptUptoRow, standIns := [], harness := (true, "6b30bc11d9a4da1cf016def134e93cc30d53b185f1d5c3ae72f1dea3600f61a5"), looks := true }, kinds := [], alts := [], laidByText := true, laidKinds := [.data, .data], laidTests := true, laidLooks := .later }
def ArenaSweptUptoCardSaid : Prop := Claim7.holds Tryd.pinned (.plain (OpenSpec.upto arenaSweptSpec)) arenaSweptUptoCard

/-- THE SECOND FORM's CARD OF 'annalslaw20.SeekAny'. -/
def seekAnyUptoCard : Claim7 := { stood := { row := seekAnyUptoRow, standIns := [], harness := (true, "6b30bc11d9a4da1cf016def134e93cc30d53b185f1d5c3ae72f1dea3600f61a5"), looks := true }, kinds := [], alts := [], laidByText := true, laidKinds := [.data, .data, .data, .data], laidTests := true, laidLooks := .later }
def SeekAnyUptoCardSaid : Prop := Claim7.holds Tryd.pinned (.plain (OpenSpec.upto seekAnySpec)) seekAnyUptoCard

/-- THE SECOND FORM's CARD OF 'annalslaw20.SeekOne'. -/
def seekOneUptoCard : Claim7 := { stood := { row := seekOneUptoRow, standIns := [], harness := (true, "6b30bc11d9a4da1cf016def134e93cc30d53b185f1d5c3ae72f1dea3600f61a5"), looks := true }, kinds := [], alts := [], laidByText := true, laidKinds := [.data, .data, .data, .data], laidTests := true, laidLooks := .later }
def SeekOneUptoCardSaid : Prop := Claim7.holds Tryd.pinned (.plain (OpenSpec.upto seekOneSpec)) seekOneUptoCard
end Rows
end Go.Proofs.YteamljekjncbfaaDoor
