/-
  NARROWER THAN 'FOR EVERY INPUT', by the rows' own cells (each row's printed sentence says how): SkipWays: laid · SkipShort: laid · ArenaHashes: laid · SkipFollows: laid · SkipOne: laid · ArenaNobody: laid · ArenaLives: laid · ArenaSwept: laid · SeekAny: laid · SeekOne: laid.
  DERIVED. THE GIVEN ROWS OF THIS SEAT. 10 by the template 'for every input the law returns true; each argument reads behind the call as it read before'; 0 by the template 'total and deterministic' (their statements: YteamljekjncbfaaDoorTotals.lean).
  GIVEN WITH THE SEED: the statements are not yours to turn. If you find one false, say at which input.
  Laid BY PROGRAM, IN A SANDBOX (cutbox-rows.mjs): the forced cells as the released guide's own fill.sh prints them over the translation 340229dae6ec13fd… (all of the seat's roots in one cut). By AI agents, Wed Nov 11 2026. No macro, syntax, notation, axiom, sorry.
-/
import Derived.Test.YteamljekjncbfaaDoorChecked
import GoSem.Claim
import GoSem.ClaimJoined
import GoSem.ClaimMapViews
import Derived.JoinedTies
import Derived.KernelRfl
namespace Go.Proofs.YteamljekjncbfaaDoor
/- THE CELL 'sum', in the pinned program and in every row, IS THE sha256 OF THE DUMP (.gsa) THAT YteamljekjncbfaaDoorProg.lean LOADS. Nothing in Lean hashes anything: it is a label: what it is worth is what the hold of that sum in a sandbox is worth. -/
noncomputable def Tryd.pinned : Pinned := { name := "yteamljekjncbfaadoor", sum := "340229dae6ec13fd35d526e599c8a6ec8660930fadbbe45f5fe8b6dd70b73e8c", checked := Tryd.checked }
namespace Rows
def none {H : Type} : Left H := { results := [], args := [] }

/- WHAT THE LISTED PACKAGE-LEVEL VARIABLES READ AS WHEN THE CALL BEGINS. Each datum BY PROGRAM (the guide's laid-datum.mjs) off the statement by which the dump's own 'gosem.cut.vars' lays the variable. In a bare row this is a premise. The card (YteamljekjncbfaaDoorCards.lean) ties it to the program's text. -/
def laid_math_bits_deBruijn32tab {H : Type} : DataW H := .agg [.lit (.int .u8 0), .lit (.int .u8 1), .lit (.int .u8 28), .lit (.int .u8 2), .lit (.int .u8 29), .lit (.int .u8 14), .lit (.int .u8 24), .lit (.int .u8 3), .lit (.int .u8 30), .lit (.int .u8 22), .lit (.int .u8 20), .lit (.int .u8 15), .lit (.int .u8 25), .lit (.int .u8 17), .lit (.int .u8 4), .lit (.int .u8 8), .lit (.int .u8 31), .lit (.int .u8 27), .lit (.int .u8 13), .lit (.int .u8 23), .lit (.int .u8 21), .lit (.int .u8 19), .lit (.int .u8 16), .lit (.int .u8 7), .lit (.int .u8 26), .lit (.int .u8 12), .lit (.int .u8 18), .lit (.int .u8 6), .lit (.int .u8 11), .lit (.int .u8 5), .lit (.int .u8 10), .lit (.int .u8 9)]
def laid_math_bits_deBruijn64tab {H : Type} : DataW H := .agg [.lit (.int .u8 0), .lit (.int .u8 1), .lit (.int .u8 56), .lit (.int .u8 2), .lit (.int .u8 57), .lit (.int .u8 49), .lit (.int .u8 28), .lit (.int .u8 3), .lit (.int .u8 61), .lit (.int .u8 58), .lit (.int .u8 42), .lit (.int .u8 50), .lit (.int .u8 38), .lit (.int .u8 29), .lit (.int .u8 17), .lit (.int .u8 4), .lit (.int .u8 62), .lit (.int .u8 47), .lit (.int .u8 59), .lit (.int .u8 36), .lit (.int .u8 45), .lit (.int .u8 43), .lit (.int .u8 51), .lit (.int .u8 22), .lit (.int .u8 53), .lit (.int .u8 39), .lit (.int .u8 33), .lit (.int .u8 30), .lit (.int .u8 24), .lit (.int .u8 18), .lit (.int .u8 12), .lit (.int .u8 5), .lit (.int .u8 63), .lit (.int .u8 55), .lit (.int .u8 48), .lit (.int .u8 27), .lit (.int .u8 60), .lit (.int .u8 41), .lit (.int .u8 37), .lit (.int .u8 16), .lit (.int .u8 46), .lit (.int .u8 35), .lit (.int .u8 44), .lit (.int .u8 21), .lit (.int .u8 52), .lit (.int .u8 32), .lit (.int .u8 23), .lit (.int .u8 11), .lit (.int .u8 54), .lit (.int .u8 26), .lit (.int .u8 40), .lit (.int .u8 15), .lit (.int .u8 34), .lit (.int .u8 20), .lit (.int .u8 31), .lit (.int .u8 10), .lit (.int .u8 25), .lit (.int .u8 14), .lit (.int .u8 19), .lit (.int .u8 9), .lit (.int .u8 13), .lit (.int .u8 8), .lit (.int .u8 7), .lit (.int .u8 6)]
def laid_annals_sha_first {H : Type} : DataW H := .agg [.lit (.int .u32 1779033703), .lit (.int .u32 3144134277), .lit (.int .u32 1013904242), .lit (.int .u32 2773480762), .lit (.int .u32 1359893119), .lit (.int .u32 2600822924), .lit (.int .u32 528734635), .lit (.int .u32 1541459225)]
def laid_annals_sha_added {H : Type} : DataW H := .agg [.lit (.int .u32 1116352408), .lit (.int .u32 1899447441), .lit (.int .u32 3049323471), .lit (.int .u32 3921009573), .lit (.int .u32 961987163), .lit (.int .u32 1508970993), .lit (.int .u32 2453635748), .lit (.int .u32 2870763221), .lit (.int .u32 3624381080), .lit (.int .u32 310598401), .lit (.int .u32 607225278), .lit (.int .u32 1426881987), .lit (.int .u32 1925078388), .lit (.int .u32 2162078206), .lit (.int .u32 2614888103), .lit (.int .u32 3248222580), .lit (.int .u32 3835390401), .lit (.int .u32 4022224774), .lit (.int .u32 264347078), .lit (.int .u32 604807628), .lit (.int .u32 770255983), .lit (.int .u32 1249150122), .lit (.int .u32 1555081692), .lit (.int .u32 1996064986), .lit (.int .u32 2554220882), .lit (.int .u32 2821834349), .lit (.int .u32 2952996808), .lit (.int .u32 3210313671), .lit (.int .u32 3336571891), .lit (.int .u32 3584528711), .lit (.int .u32 113926993), .lit (.int .u32 338241895), .lit (.int .u32 666307205), .lit (.int .u32 773529912), .lit (.int .u32 1294757372), .lit (.int .u32 1396182291), .lit (.int .u32 1695183700), .lit (.int .u32 1986661051), .lit (.int .u32 2177026350), .lit (.int .u32 2456956037), .lit (.int .u32 2730485921), .lit (.int .u32 2820302411), .lit (.int .u32 3259730800), .lit (.int .u32 3345764771), .lit (.int .u32 3516065817), .lit (.int .u32 3600352804), .lit (.int .u32 4094571909), .lit (.int .u32 275423344), .lit (.int .u32 430227734), .lit (.int .u32 506948616), .lit (.int .u32 659060556), .lit (.int .u32 883997877), .lit (.int .u32 958139571), .lit (.int .u32 1322822218), .lit (.int .u32 1537002063), .lit (.int .u32 1747873779), .lit (.int .u32 1955562222), .lit (.int .u32 2024104815), .lit (.int .u32 2227730452), .lit (.int .u32 2361852424), .lit (.int .u32 2428436474), .lit (.int .u32 2756734187), .lit (.int .u32 3204031479), .lit (.int .u32 3329325298)]

/-- 'annalslaw14.SkipWays': WHATEVER THE INPUT: true; the input reads as it did. -/
def skipWaysSpec : ChangeSpec := { name := "skipWays", fn := fun _ => fun
  | [d1, d2, d3] => { results := [.lit (.bool true)], args := [d1, d2, d3] }
  | _ => none }
def skipWaysRow : OpenClaim := { program := "yteamljekjncbfaadoor", sum := "340229dae6ec13fd35d526e599c8a6ec8660930fadbbe45f5fe8b6dd70b73e8c", func := "annals/annalslaw14.SkipWays", spec := "skipWays", named := ["math/bits.deBruijn32tab", "math/bits.deBruijn64tab"], apart := false, laid := [("math/bits.deBruijn32tab", laid_math_bits_deBruijn32tab), ("math/bits.deBruijn64tab", laid_math_bits_deBruijn64tab)] }
def SkipWaysSaid : Prop := skipWaysRow.holds Tryd.pinned (OpenSpec.ofChange skipWaysSpec)

/-- ITS FALSE NEIGHBOUR: 'it returns false'. Refute it at one input. -/
def skipWaysWrong : ChangeSpec := { name := "skipWays", fn := fun _ => fun
  | [d1, d2, d3] => { results := [.lit (.bool false)], args := [d1, d2, d3] }
  | _ => none }
def SkipWaysWrongFalsely : Prop := skipWaysRow.holds Tryd.pinned (OpenSpec.ofChange skipWaysWrong)

/-- 'annalslaw14.SkipShort': WHATEVER THE INPUT: true; the input reads as it did. -/
def skipShortSpec : ChangeSpec := { name := "skipShort", fn := fun _ => fun
  | [d1, d2] => { results := [.lit (.bool true)], args := [d1, d2] }
  | _ => none }
def skipShortRow : OpenClaim := { program := "yteamljekjncbfaadoor", sum := "340229dae6ec13fd35d526e599c8a6ec8660930fadbbe45f5fe8b6dd70b73e8c", func := "annals/annalslaw14.SkipShort", spec := "skipShort", named := ["math/bits.deBruijn32tab", "math/bits.deBruijn64tab"], apart := false, laid := [("math/bits.deBruijn32tab", laid_math_bits_deBruijn32tab), ("math/bits.deBruijn64tab", laid_math_bits_deBruijn64tab)] }
def SkipShortSaid : Prop := skipShortRow.holds Tryd.pinned (OpenSpec.ofChange skipShortSpec)

/-- ITS FALSE NEIGHBOUR: 'it returns false'. Refute it at one input. -/
def skipShortWrong : ChangeSpec := { name := "skipShort", fn := fun _ => fun
  | [d1, d2] => { results := [.lit (.bool false)], args := [d1, d2] }
  | _ => none }
def SkipShortWrongFalsely : Prop := skipShortRow.holds Tryd.pinned (OpenSpec.ofChange skipShortWrong)

/-- 'annalslaw09.ArenaHashes': WHATEVER THE INPUT: true; the input reads as it did. -/
def arenaHashesSpec : ChangeSpec := { name := "arenaHashes", fn := fun _ => fun
  | [d1, d2, d3, d4, d5, d6, d7] => { results := [.lit (.bool true)], args := [d1, d2, d3, d4, d5, d6, d7] }
  | _ => none }
def arenaHashesRow : OpenClaim := { program := "yteamljekjncbfaadoor", sum := "340229dae6ec13fd35d526e599c8a6ec8660930fadbbe45f5fe8b6dd70b73e8c", func := "annals/annalslaw09.ArenaHashes", spec := "arenaHashes", unfollowed := true, recurses := true, named := ["annals/sha.first", "annals/sha.added"], apart := false, laid := [("annals/sha.first", laid_annals_sha_first), ("annals/sha.added", laid_annals_sha_added)] }
def ArenaHashesSaid : Prop := arenaHashesRow.holds Tryd.pinned (OpenSpec.ofChange arenaHashesSpec)

/-- ITS FALSE NEIGHBOUR: 'it returns false'. Refute it at one input. -/
def arenaHashesWrong : ChangeSpec := { name := "arenaHashes", fn := fun _ => fun
  | [d1, d2, d3, d4, d5, d6, d7] => { results := [.lit (.bool false)], args := [d1, d2, d3, d4, d5, d6, d7] }
  | _ => none }
def ArenaHashesWrongFalsely : Prop := arenaHashesRow.holds Tryd.pinned (OpenSpec.ofChange arenaHashesWrong)

/-- 'annalslaw14.SkipFollows': WHATEVER THE INPUT: true; the input reads as it did. -/
def skipFollowsSpec : ChangeSpec := { name := "skipFollows", fn := fun _ => fun
  | [d1, d2, d3, d4] => { results := [.lit (.bool true)], args := [d1, d2, d3, d4] }
  | _ => none }
def skipFollowsRow : OpenClaim := { program := "yteamljekjncbfaadoor", sum := "340229dae6ec13fd35d526e599c8a6ec8660930fadbbe45f5fe8b6dd70b73e8c", func := "annals/annalslaw14.SkipFollows", spec := "skipFollows", unfollowed := true, recurses := true, named := ["math/bits.deBruijn32tab", "math/bits.deBruijn64tab", "annals/sha.first", "annals/sha.added"], apart := false, laid := [("math/bits.deBruijn32tab", laid_math_bits_deBruijn32tab), ("math/bits.deBruijn64tab", laid_math_bits_deBruijn64tab), ("annals/sha.first", laid_annals_sha_first), ("annals/sha.added", laid_annals_sha_added)] }
def SkipFollowsSaid : Prop := skipFollowsRow.holds Tryd.pinned (OpenSpec.ofChange skipFollowsSpec)

/-- ITS FALSE NEIGHBOUR: 'it returns false'. Refute it at one input. -/
def skipFollowsWrong : ChangeSpec := { name := "skipFollows", fn := fun _ => fun
  | [d1, d2, d3, d4] => { results := [.lit (.bool false)], args := [d1, d2, d3, d4] }
  | _ => none }
def SkipFollowsWrongFalsely : Prop := skipFollowsRow.holds Tryd.pinned (OpenSpec.ofChange skipFollowsWrong)

/-- 'annalslaw14.SkipOne': WHATEVER THE INPUT: true; the input reads as it did. -/
def skipOneSpec : ChangeSpec := { name := "skipOne", fn := fun _ => fun
  | [d1, d2, d3, d4, d5] => { results := [.lit (.bool true)], args := [d1, d2, d3, d4, d5] }
  | _ => none }
def skipOneRow : OpenClaim := { program := "yteamljekjncbfaadoor", sum := "340229dae6ec13fd35d526e599c8a6ec8660930fadbbe45f5fe8b6dd70b73e8c", func := "annals/annalslaw14.SkipOne", spec := "skipOne", unfollowed := true, recurses := true, named := ["math/bits.deBruijn32tab", "math/bits.deBruijn64tab", "annals/sha.first", "annals/sha.added"], apart := false, laid := [("math/bits.deBruijn32tab", laid_math_bits_deBruijn32tab), ("math/bits.deBruijn64tab", laid_math_bits_deBruijn64tab), ("annals/sha.first", laid_annals_sha_first), ("annals/sha.added", laid_annals_sha_added)] }
def SkipOneSaid : Prop := skipOneRow.holds Tryd.pinned (OpenSpec.ofChange skipOneSpec)

/-- ITS FALSE NEIGHBOUR: 'it returns false'. Refute it at one input. -/
def skipOneWrong : ChangeSpec := { name := "skipOne", fn := fun _ => fun
  | [d1, d2, d3, d4, d5] => { results := [.lit (.bool false)], args := [d1, d2, d3, d4, d5] }
  | _ => none }
def SkipOneWrongFalsely : Prop := skipOneRow.holds Tryd.pinned (OpenSpec.ofChange skipOneWrong)

/-- 'annalslaw09.ArenaNobody': WHATEVER THE INPUT: true; the input reads as it did. -/
def arenaNobodySpec : ChangeSpec := { name := "arenaNobody", fn := fun _ => fun
  | [d] => { results := [.lit (.bool true)], args := [d] }
  | _ => none }
def arenaNobodyRow : OpenClaim := { program := "yteamljekjncbfaadoor", sum := "340229dae6ec13fd35d526e599c8a6ec8660930fadbbe45f5fe8b6dd70b73e8c", func := "annals/annalslaw09.ArenaNobody", spec := "arenaNobody", unfollowed := true, recurses := true, named := ["annals/sha.first", "annals/sha.added"], apart := false, laid := [("annals/sha.first", laid_annals_sha_first), ("annals/sha.added", laid_annals_sha_added)] }
def ArenaNobodySaid : Prop := arenaNobodyRow.holds Tryd.pinned (OpenSpec.ofChange arenaNobodySpec)

/-- ITS FALSE NEIGHBOUR: 'it returns false'. Refute it at one input. -/
def arenaNobodyWrong : ChangeSpec := { name := "arenaNobody", fn := fun _ => fun
  | [d] => { results := [.lit (.bool false)], args := [d] }
  | _ => none }
def ArenaNobodyWrongFalsely : Prop := arenaNobodyRow.holds Tryd.pinned (OpenSpec.ofChange arenaNobodyWrong)

/-- 'annalslaw09.ArenaLives': WHATEVER THE INPUT: true; the input reads as it did. -/
def arenaLivesSpec : ChangeSpec := { name := "arenaLives", fn := fun _ => fun
  | [d1, d2, d3] => { results := [.lit (.bool true)], args := [d1, d2, d3] }
  | _ => none }
def arenaLivesRow : OpenClaim := { program := "yteamljekjncbfaadoor", sum := "340229dae6ec13fd35d526e599c8a6ec8660930fadbbe45f5fe8b6dd70b73e8c", func := "annals/annalslaw09.ArenaLives", spec := "arenaLives", unfollowed := true, recurses := true, named := ["annals/sha.first", "annals/sha.added"], apart := false, laid := [("annals/sha.first", laid_annals_sha_first), ("annals/sha.added", laid_annals_sha_added)] }
def ArenaLivesSaid : Prop := arenaLivesRow.holds Tryd.pinned (OpenSpec.ofChange arenaLivesSpec)

/-- ITS FALSE NEIGHBOUR: 'it returns false'. Refute it at one input. -/
def arenaLivesWrong : ChangeSpec := { name := "arenaLives", fn := fun _ => fun
  | [d1, d2, d3] => { results := [.lit (.bool false)], args := [d1, d2, d3] }
  | _ => none }
def ArenaLivesWrongFalsely : Prop := arenaLivesRow.holds Tryd.pinned (OpenSpec.ofChange arenaLivesWrong)

/-- 'annalslaw09.ArenaSwept': WHATEVER THE INPUT: true; the input reads as it did. -/
def arenaSweptSpec : ChangeSpec := { name := "arenaSwept", fn := fun _ => fun
  | [d1, d2] => { results := [.lit (.bool true)], args := [d1, d2] }
  | _ => none }
def arenaSweptRow : OpenClaim := { program := "yteamljekjncbfaadoor", sum := "340229dae6ec13fd35d526e599c8a6ec8660930fadbbe45f5fe8b6dd70b73e8c", func := "annals/annalslaw09.ArenaSwept", spec := "arenaSwept", unfollowed := true, recurses := true, named := ["annals/sha.first", "annals/sha.added"], apart := false, laid := [("annals/sha.first", laid_annals_sha_first), ("annals/sha.added", laid_annals_sha_added)] }
def ArenaSweptSaid : Prop := arenaSweptRow.holds Tryd.pinned (OpenSpec.ofChange arenaSweptSpec)

/-- ITS FALSE NEIGHBOUR: 'it returns false'. Refute it at one input. -/
def arenaSweptWrong : ChangeSpec := { name := "arenaSwept", fn := fun _ => fun
  | [d1, d2] => { results := [.lit (.bool false)], args := [d1, d2] }
  | _ => none }
def ArenaSweptWrongFalsely : Prop := arenaSweptRow.holds Tryd.pinned (OpenSpec.ofChange arenaSweptWrong)

/-- 'annalslaw20.SeekAny': WHATEVER THE INPUT: true; the input reads as it did. -/
def seekAnySpec : ChangeSpec := { name := "seekAny", fn := fun _ => fun
  | [d1, d2, d3, d4] => { results := [.lit (.bool true)], args := [d1, d2, d3, d4] }
  | _ => none }
def seekAnyRow : OpenClaim := { program := "yteamljekjncbfaadoor", sum := "340229dae6ec13fd35d526e599c8a6ec8660930fadbbe45f5fe8b6dd70b73e8c", func := "annals/annalslaw20.SeekAny", spec := "seekAny", unfollowed := true, recurses := true, named := ["math/bits.deBruijn32tab", "math/bits.deBruijn64tab", "annals/sha.first", "annals/sha.added"], apart := false, laid := [("math/bits.deBruijn32tab", laid_math_bits_deBruijn32tab), ("math/bits.deBruijn64tab", laid_math_bits_deBruijn64tab), ("annals/sha.first", laid_annals_sha_first), ("annals/sha.added", laid_annals_sha_added)] }
def SeekAnySaid : Prop := seekAnyRow.holds Tryd.pinned (OpenSpec.ofChange seekAnySpec)

/-- ITS FALSE NEIGHBOUR: 'it returns false'. Refute it at one input. -/
def seekAnyWrong : ChangeSpec := { name := "seekAny", fn := fun _ => fun
  | [d1, d2, d3, d4] => { results := [.lit (.bool false)], args := [d1, d2, d3, d4] }
  | _ => none }
def SeekAnyWrongFalsely : Prop := seekAnyRow.holds Tryd.pinned (OpenSpec.ofChange seekAnyWrong)

/-- 'annalslaw20.SeekOne': WHATEVER THE INPUT: true; the input reads as it did. -/
def seekOneSpec : ChangeSpec := { name := "seekOne", fn := fun _ => fun
  | [d1, d2, d3, d4, d5] => { results := [.lit (.bool true)], args := [d1, d2, d3, d4, d5] }
  | _ => none }
def seekOneRow : OpenClaim := { program := "yteamljekjncbfaadoor", sum := "340229dae6ec13fd35d526e599c8a6ec8660930fadbbe45f5fe8b6dd70b73e8c", func := "annals/annalslaw20.SeekOne", spec := "seekOne", unfollowed := true, recurses := true, named := ["math/bits.deBruijn32tab", "math/bits.deBruijn64tab", "annals/sha.first", "annals/sha.added"], apart := false, laid := [("math/bits.deBruijn32tab", laid_math_bits_deBruijn32tab), ("math/bits.deBruijn64tab", laid_math_bits_deBruijn64tab), ("annals/sha.first", laid_annals_sha_first), ("annals/sha.added", laid_annals_sha_added)] }
def SeekOneSaid : Prop := seekOneRow.holds Tryd.pinned (OpenSpec.ofChange seekOneSpec)

/-- ITS FALSE NEIGHBOUR: 'it returns false'. Refute it at one input. -/
def seekOneWrong : ChangeSpec := { name := "seekOne", fn := fun _ => fun
  | [d1, d2, d3, d4, d5] => { results := [.lit (.bool false)], args := [d1, d2, d3, d4, d5] }
  | _ => none }
def SeekOneWrongFalsely : Prop := seekOneRow.holds Tryd.pinned (OpenSpec.ofChange seekOneWrong)

/- THE SECOND FORM. 'bulk': how many values and letters a reading holds, each counted each time it is reached (what is shared counts as often as it is met; a slice's spare places count too). A statement '..UptoSaid' is the law's where the arguments, and the package variables that the reading takes, are together of bulk at most 1048576: NARROWER than '..Said'. Prove '..Said' where nothing that the law and all that it calls make is longer than what came in: it says more and counts as full. Else prove '..UptoSaid'. A law counts once. -/
mutual
def uptoBulk {H : Type} : DataW H → Nat
  | .lit (.string bytes) => bytes.length + 1
  | .lit _ => 1
  | .nil => 1
  | .ptr d => uptoBulk d + 1
  | .slice elems spare => uptoBulkAll elems + uptoBulkAll spare + 1
  | .agg parts => uptoBulkAll parts + 1
  | .iface _ d => uptoBulk d + 1
  | .map entries => uptoBulkEntries entries + 1
  | .held _ => 1
def uptoBulkAll {H : Type} : List (DataW H) → Nat
  | [] => 0
  | d :: r => uptoBulk d + uptoBulkAll r
def uptoBulkEntries {H : Type} : List (Lit × DataW H) → Nat
  | [] => 0
  | x :: r => uptoBulkEntry x + uptoBulkEntries r
def uptoBulkEntry {H : Type} : Lit × DataW H → Nat
  | (.string bytes, d) => bytes.length + uptoBulk d + 1
  | (_, d) => uptoBulk d + 1
 end
def uptoSmall : (H : Type) → List (DataW H) → Bool := fun _ ds => decide (uptoBulkAll ds ≤ 1048576)
def OpenSpec.upto (s : _root_.Go.ChangeSpec) : _root_.Go.OpenSpec := { _root_.Go.OpenSpec.ofChange s with cond := some uptoSmall }

/-- 'annalslaw14.SkipWays', WHERE WHAT IT READS IS OF BULK AT MOST 1048576: true; the input reads as it did. -/
def skipWaysUptoRow : OpenClaim := { program := "yteamljekjncbfaadoor", sum := "340229dae6ec13fd35d526e599c8a6ec8660930fadbbe45f5fe8b6dd70b73e8c", func := "annals/annalslaw14.SkipWays", spec := "skipWays", named := ["math/bits.deBruijn32tab", "math/bits.deBruijn64tab"], apart := false, laid := [("math/bits.deBruijn32tab", laid_math_bits_deBruijn32tab), ("math/bits.deBruijn64tab", laid_math_bits_deBruijn64tab)], narrowed := true }
def SkipWaysUptoSaid : Prop := skipWaysUptoRow.holds Tryd.pinned (OpenSpec.upto skipWaysSpec)

/-- 'annalslaw14.SkipShort', WHERE WHAT IT READS IS OF BULK AT MOST 1048576: true; the input reads as it did. -/
def skipShortUptoRow : OpenClaim := { program := "yteamljekjncbfaadoor", sum := "340229dae6ec13fd35d526e599c8a6ec8660930fadbbe45f5fe8b6dd70b73e8c", func := "annals/annalslaw14.SkipShort", spec := "skipShort", named := ["math/bits.deBruijn32tab", "math/bits.deBruijn64tab"], apart := false, laid := [("math/bits.deBruijn32tab", laid_math_bits_deBruijn32tab), ("math/bits.deBruijn64tab", laid_math_bits_deBruijn64tab)], narrowed := true }
def SkipShortUptoSaid : Prop := skipShortUptoRow.holds Tryd.pinned (OpenSpec.upto skipShortSpec)

/-- 'annalslaw09.ArenaHashes', WHERE WHAT IT READS IS OF BULK AT MOST 1048576: true; the input reads as it did. -/
def arenaHashesUptoRow : OpenClaim := { program := "yteamljekjncbfaadoor", sum := "340229dae6ec13fd35d526e599c8a6ec8660930fadbbe45f5fe8b6dd70b73e8c", func := "annals/annalslaw09.ArenaHashes", spec := "arenaHashes", unfollowed := true, recurses := true, named := ["annals/sha.first", "annals/sha.added"], apart := false, laid := [("annals/sha.first", laid_annals_sha_first), ("annals/sha.added", laid_annals_sha_added)], narrowed := true }
def ArenaHashesUptoSaid : Prop := arenaHashesUptoRow.holds Tryd.pinned (OpenSpec.upto arenaHashesSpec)

/-- 'annalslaw14.SkipFollows', WHERE WHAT IT READS IS OF BULK AT MOST 1048576: true; the input reads as it did. -/
def skipFollowsUptoRow : OpenClaim := { program := "yteamljekjncbfaadoor", sum := "340229dae6ec13fd35d526e599c8a6ec8660930fadbbe45f5fe8b6dd70b73e8c", func := "annals/annalslaw14.SkipFollows", spec := "skipFollows", unfollowed := true, recurses := true, named := ["math/bits.deBruijn32tab", "math/bits.deBruijn64tab", "annals/sha.first", "annals/sha.added"], apart := false, laid := [("math/bits.deBruijn32tab", laid_math_bits_deBruijn32tab), ("math/bits.deBruijn64tab", laid_math_bits_deBruijn64tab), ("annals/sha.first", laid_annals_sha_first), ("annals/sha.added", laid_annals_sha_added)], narrowed := true }
def SkipFollowsUptoSaid : Prop := skipFollowsUptoRow.holds Tryd.pinned (OpenSpec.upto skipFollowsSpec)

/-- 'annalslaw14.SkipOne', WHERE WHAT IT READS IS OF BULK AT MOST 1048576: true; the input reads as it did. -/
def skipOneUptoRow : OpenClaim := { program := "yteamljekjncbfaadoor", sum := "340229dae6ec13fd35d526e599c8a6ec8660930fadbbe45f5fe8b6dd70b73e8c", func := "annals/annalslaw14.SkipOne", spec := "skipOne", unfollowed := true, recurses := true, named := ["math/bits.deBruijn32tab", "math/bits.deBruijn64tab", "annals/sha.first", "annals/sha.added"], apart := false, laid := [("math/bits.deBruijn32tab", laid_math_bits_deBruijn32tab), ("math/bits.deBruijn64tab", laid_math_bits_deBruijn64tab), ("annals/sha.first", laid_annals_sha_first), ("annals/sha.added", laid_annals_sha_added)], narrowed := true }
def SkipOneUptoSaid : Prop := skipOneUptoRow.holds Tryd.pinned (OpenSpec.upto skipOneSpec)

/-- 'annalslaw09.ArenaNobody', WHERE WHAT IT READS IS OF BULK AT MOST 1048576: true; the input reads as it did. -/
def arenaNobodyUptoRow : OpenClaim := { program := "yteamljekjncbfaadoor", sum := "340229dae6ec13fd35d526e599c8a6ec8660930fadbbe45f5fe8b6dd70b73e8c", func := "annals/annalslaw09.ArenaNobody", spec := "arenaNobody", unfollowed := true, recurses := true, named := ["annals/sha.first", "annals/sha.added"], apart := false, laid := [("annals/sha.first", laid_annals_sha_first), ("annals/sha.added", laid_annals_sha_added)], narrowed := true }
def ArenaNobodyUptoSaid : Prop := arenaNobodyUptoRow.holds Tryd.pinned (OpenSpec.upto arenaNobodySpec)

/-- 'annalslaw09.ArenaLives', WHERE WHAT IT READS IS OF BULK AT MOST 1048576: true; the input reads as it did. -/
def arenaLivesUptoRow : OpenClaim := { program := "yteamljekjncbfaadoor", sum := "340229dae6ec13fd35d526e599c8a6ec8660930fadbbe45f5fe8b6dd70b73e8c", func := "annals/annalslaw09.ArenaLives", spec := "arenaLives", unfollowed := true, recurses := true, named := ["annals/sha.first", "annals/sha.added"], apart := false, laid := [("annals/sha.first", laid_annals_sha_first), ("annals/sha.added", laid_annals_sha_added)], narrowed := true }
def ArenaLivesUptoSaid : Prop := arenaLivesUptoRow.holds Tryd.pinned (OpenSpec.upto arenaLivesSpec)

/-- 'annalslaw09.ArenaSwept', WHERE WHAT IT READS IS OF BULK AT MOST 1048576: true; the input reads as it did. -/
def arenaSweptUptoRow : OpenClaim := { program := "yteamljekjncbfaadoor", sum := "340229dae6ec13fd35d526e599c8a6ec8660930fadbbe45f5fe8b6dd70b73e8c", func := "annals/annalslaw09.ArenaSwept", spec := "arenaSwept", unfollowed := true, recurses := true, named := ["annals/sha.first", "annals/sha.added"], apart := false, laid := [("annals/sha.first", laid_annals_sha_first), ("annals/sha.added", laid_annals_sha_added)], narrowed := true }
def ArenaSweptUptoSaid : Prop := arenaSweptUptoRow.holds Tryd.pinned (OpenSpec.upto arenaSweptSpec)

/-- 'annalslaw20.SeekAny', WHERE WHAT IT READS IS OF BULK AT MOST 1048576: true; the input reads as it did. -/
def seekAnyUptoRow : OpenClaim := { program := "yteamljekjncbfaadoor", sum := "340229dae6ec13fd35d526e599c8a6ec8660930fadbbe45f5fe8b6dd70b73e8c", func := "annals/annalslaw20.SeekAny", spec := "seekAny", unfollowed := true, recurses := true, named := ["math/bits.deBruijn32tab", "math/bits.deBruijn64tab", "annals/sha.first", "annals/sha.added"], apart := false, laid := [("math/bits.deBruijn32tab", laid_math_bits_deBruijn32tab), ("math/bits.deBruijn64tab", laid_math_bits_deBruijn64tab), ("annals/sha.first", laid_annals_sha_first), ("annals/sha.added", laid_annals_sha_added)], narrowed := true }
def SeekAnyUptoSaid : Prop := seekAnyUptoRow.holds Tryd.pinned (OpenSpec.upto seekAnySpec)

/-- 'annalslaw20.SeekOne', WHERE WHAT IT READS IS OF BULK AT MOST 1048576: true; the input reads as it did. -/
def seekOneUptoRow : OpenClaim := { program := "yteamljekjncbfaadoor", sum := "340229dae6ec13fd35d526e599c8a6ec8660930fadbbe45f5fe8b6dd70b73e8c", func := "annals/annalslaw20.SeekOne", spec := "seekOne", unfollowed := true, recurses := true, named := ["math/bits.deBruijn32tab", "math/bits.deBruijn64tab", "annals/sha.first", "annals/sha.added"], apart := false, laid := [("math/bits.deBruijn32tab", laid_math_bits_deBruijn32tab), ("math/bits.deBruijn64tab", laid_math_bits_deBruijn64tab), ("annals/sha.first", laid_annals_sha_first), ("annals/sha.added", laid_annals_sha_added)], narrowed := true }
def SeekOneUptoSaid : Prop := seekOneUptoRow.holds Tryd.pinned (OpenSpec.upto seekOneSpec)

end Rows
end Go.Proofs.YteamljekjncbfaaDoor
