/- Lemmas of this claim, part 6. -/
import Derived.Test.YteamljekjncbfaaDoorPartArenaNobody5
import Derived.Lib.ItoaNum
import Derived.Test.YteamljekjncbfaaDoorPartArenaNobody1
import Derived.Test.YteamljekjncbfaaDoorPartArenaNobody2
import Derived.Test.YteamljekjncbfaaDoorPartArenaNobody4
import Derived.WalkSpells
import Derived.WalkLawsBesides
import Derived.Deep.RegionHeld3
import Derived.IntWalk
import Derived.Deep.RegionHeld
import Derived.WideShapes
import Derived.SizedLaws
import Derived.ChangeSlices
section
set_option linter.unusedVariables false
set_option linter.unusedSimpArgs false
namespace Go.Proofs.YteamljekjncbfaaDoor.Pure
open Go.RowKit Go.Proofs.YteamljekjncbfaaDoor.P Go.Proofs.YteamljekjncbfaaDoorW.PrintWords Go.Proofs.YteamljekjncbfaaDoorW.PrintLast Go.Proofs.YteamljekjncbfaaDoorW.PrintMore
def p2 (j : Nat) : Nat := 2 ^ j
def vz (f : Nat) : Nat := Lib.ctz 64 f
def bl (d : Nat) : Nat := Lib.bitLen d
def hop (f t : Nat) : Nat := min (vz f) (bl (f - t) - 1)
def cur (f t : Nat) : Nat → Nat
  | 0 => f
  | i + 1 => if t < f then f - p2 (min i (bl (f - t) - 1)) else f
end Go.Proofs.YteamljekjncbfaaDoor.Pure
end
section
namespace Go.Proofs.YteamljekjncbfaaDoor.P
open Go.RowKit Go.Proofs.YteamljekjncbfaaDoorW.PrintWords Go.Proofs.YteamljekjncbfaaDoorW.PrintLast Go.Proofs.YteamljekjncbfaaDoorW.PrintMore
attribute [local go_sem] max2_int min2_int max_two min_two max_three min_three max_four min_four
set_option linter.unusedVariables false
set_option linter.unusedSimpArgs false
def codec_Uint.l0 : Nat → Int → List Int → Int → Option (List Int)
  | 0, _, _, _ => none
  | k + 1, x1, x6, x7 => if x7 ≥ 0 then (if 0 ≤ (wrap64 (8 * x7)) then (if x6.length < 140737488355328 then (codec_Uint.l0 k x1 (x6 ++ [(shr .i64 x1 (wrap64 (8 * x7))) % 256]) (wrap64 (x7 - 1))) else (none)) else (none)) else (some x6)
def codec_Uint.f (k : Nat) (l0 : List Int) (a1 : Int) : Option (List Int) := (bits_Len.f (mn (mx a1 0) 4611686018427387904)).bind fun t261 => ((slices_Clone_byte_byte.f l0).bind fun t262 => (if t262.length < 140737488355328 then (codec_Uint.l0 k (mn (mx a1 0) 4611686018427387904) (t262 ++ [(wrap64 (Int.tdiv (wrap64 (t261 + 7)) 8)) % 256]) (wrap64 ((wrap64 (Int.tdiv (wrap64 (t261 + 7)) 8)) - 1))) else (none)))
theorem codec_Uint.mono_l : ∀ k, (∀ y0 y1 y2, LeO (codec_Uint.l0 k y0 y1 y2) (codec_Uint.l0 (k + 1) y0 y1 y2))
  | 0 => fun _ _ _ r h => by simp [codec_Uint.l0] at h
  | k + 1 => by
    have ih0 := codec_Uint.mono_l k
    · intro y0 y1 y2
      unfold codec_Uint.l0
      repeat' first
      | (with_reducible exact ih0 _ _ _)
      | (with_reducible exact LeO.refl _)
      | (with_reducible exact LeO.none _)
      | (with_reducible refine LeO.ite ?_ ?_)
      | (with_reducible refine LeO.bind ?_ (fun _ => ?_))
      | exact ih0 _ _ _
      | exact LeO.none _
      | refine LeO.ite ?_ ?_
      | refine LeO.bind ?_ (fun _ => ?_)
theorem codec_Uint.mono : ∀ a0 a1 k, LeO (codec_Uint.f k a0 a1) (codec_Uint.f (k + 1) a0 a1) := by
  intro a0 a1 k
  have ih0 := codec_Uint.mono_l k
  unfold codec_Uint.f
  repeat' first
      | (with_reducible exact ih0 _ _ _)
      | (with_reducible exact LeO.refl _)
      | (with_reducible exact LeO.none _)
      | (with_reducible refine LeO.ite ?_ ?_)
      | (with_reducible refine LeO.bind ?_ (fun _ => ?_))
      | exact ih0 _ _ _
      | exact LeO.none _
      | refine LeO.ite ?_ ?_
      | refine LeO.bind ?_ (fun _ => ?_)
end Go.Proofs.YteamljekjncbfaaDoor.P
end
section
namespace Go.Proofs.YteamljekjncbfaaDoor.P
open Go.RowKit Go.Proofs.YteamljekjncbfaaDoorW.PrintWords Go.Proofs.YteamljekjncbfaaDoorW.PrintLast Go.Proofs.YteamljekjncbfaaDoorW.PrintMore
attribute [local go_sem] max2_int min2_int max_two min_two max_three min_three max_four min_four
set_option linter.unusedVariables false
set_option linter.unusedSimpArgs false
def codec_Bytes.f (k : Nat) (l0 : List Int) (l1 : List Int) : Option (List Int) := (codec_Uint.f k l0 (l1.length : Int)).bind fun t271 => (if t271.length + l1.length < 140737488355328 then (some (t271 ++ l1)) else (none))
theorem codec_Bytes.mono : ∀ a0 a1 k, LeO (codec_Bytes.f k a0 a1) (codec_Bytes.f (k + 1) a0 a1) := by
  intro a0 a1 k
  unfold codec_Bytes.f
  repeat' first
      | (with_reducible exact codec_Uint.mono _ _ _)
      | (with_reducible exact LeO.refl _)
      | (with_reducible exact LeO.none _)
      | (with_reducible refine LeO.ite ?_ ?_)
      | (with_reducible refine LeO.bind ?_ (fun _ => ?_))
      | exact codec_Uint.mono _ _ _
      | exact LeO.none _
      | refine LeO.ite ?_ ?_
      | refine LeO.bind ?_ (fun _ => ?_)
end Go.Proofs.YteamljekjncbfaaDoor.P
end
section
namespace Go.Proofs.YteamljekjncbfaaDoor.P
open Go.RowKit Go.Proofs.YteamljekjncbfaaDoorW.PrintWords Go.Proofs.YteamljekjncbfaaDoorW.PrintLast Go.Proofs.YteamljekjncbfaaDoorW.PrintMore
attribute [local go_sem] max2_int min2_int max_two min_two max_three min_three max_four min_four
set_option linter.unusedVariables false
set_option linter.unusedSimpArgs false
def annalsref04_Uint.l0 : Nat → List Int → Int → List Int → Option (List Int)
  | 0, _, _, _ => none
  | k + 1, x0, x1, x5 => if x1 > 0 then ((some (([(x1) % 256] : List Int) : List Int)).bind fun y357 => (if y357.length + x5.length < 140737488355328 then (annalsref04_Uint.l0 k x0 (x1 / 256) (y357 ++ x5)) else (none))) else ((some (([] : List Int) : List Int)).bind fun y363 => (if y363.length + x0.length < 140737488355328 then ((some (y363 ++ x0 : List Int)).bind fun y366 => (if y366.length < 140737488355328 then ((some (y366 ++ [((x5.length : Int)) % 256] : List Int)).bind fun y369 => (if y369.length + x5.length < 140737488355328 then (some (y369 ++ x5)) else (none))) else (none))) else (none)))
def annalsref04_Uint.f (k : Nat) (l0 : List Int) (a1 : Int) : Option (List Int) := annalsref04_Uint.l0 k l0 (mx 0 (mn a1 4611686018427387904)) ([] : List Int)
theorem annalsref04_Uint.mono_l : ∀ k, (∀ y0 y1 y2, LeO (annalsref04_Uint.l0 k y0 y1 y2) (annalsref04_Uint.l0 (k + 1) y0 y1 y2))
  | 0 => fun _ _ _ r h => by simp [annalsref04_Uint.l0] at h
  | k + 1 => by
    have ih0 := annalsref04_Uint.mono_l k
    · intro y0 y1 y2
      unfold annalsref04_Uint.l0
      repeat' first
      | (with_reducible exact ih0 _ _ _)
      | (with_reducible exact LeO.refl _)
      | (with_reducible exact LeO.none _)
      | (with_reducible refine LeO.ite ?_ ?_)
      | (with_reducible refine LeO.bind ?_ (fun _ => ?_))
      | exact ih0 _ _ _
      | exact LeO.none _
      | refine LeO.ite ?_ ?_
      | refine LeO.bind ?_ (fun _ => ?_)
theorem annalsref04_Uint.mono : ∀ a0 a1 k, LeO (annalsref04_Uint.f k a0 a1) (annalsref04_Uint.f (k + 1) a0 a1) := by
  intro a0 a1 k
  have ih0 := annalsref04_Uint.mono_l k
  unfold annalsref04_Uint.f
  repeat' first
      | (with_reducible exact ih0 _ _ _)
      | (with_reducible exact LeO.refl _)
      | (with_reducible exact LeO.none _)
      | (with_reducible refine LeO.ite ?_ ?_)
      | (with_reducible refine LeO.bind ?_ (fun _ => ?_))
      | exact ih0 _ _ _
      | exact LeO.none _
      | refine LeO.ite ?_ ?_
      | refine LeO.bind ?_ (fun _ => ?_)
end Go.Proofs.YteamljekjncbfaaDoor.P
end
section
namespace Go.Proofs.YteamljekjncbfaaDoor.P
open Go.RowKit Go.Proofs.YteamljekjncbfaaDoorW.PrintWords Go.Proofs.YteamljekjncbfaaDoorW.PrintLast Go.Proofs.YteamljekjncbfaaDoorW.PrintMore
attribute [local go_sem] max2_int min2_int max_two min_two max_three min_three max_four min_four
set_option linter.unusedVariables false
set_option linter.unusedSimpArgs false
def annalsref04_Bytes.f (k : Nat) (l0 : List Int) (l1 : List Int) : Option (List Int) := (annalsref04_Uint.f k l0 (l1.length : Int)).bind fun t375 => (if t375.length + l1.length < 140737488355328 then (some (t375 ++ l1)) else (none))
theorem annalsref04_Bytes.mono : ∀ a0 a1 k, LeO (annalsref04_Bytes.f k a0 a1) (annalsref04_Bytes.f (k + 1) a0 a1) := by
  intro a0 a1 k
  unfold annalsref04_Bytes.f
  repeat' first
      | (with_reducible exact annalsref04_Uint.mono _ _ _)
      | (with_reducible exact LeO.refl _)
      | (with_reducible exact LeO.none _)
      | (with_reducible refine LeO.ite ?_ ?_)
      | (with_reducible refine LeO.bind ?_ (fun _ => ?_))
      | exact annalsref04_Uint.mono _ _ _
      | exact LeO.none _
      | refine LeO.ite ?_ ?_
      | refine LeO.bind ?_ (fun _ => ?_)
end Go.Proofs.YteamljekjncbfaaDoor.P
end
section
set_option linter.unusedVariables false
set_option linter.unusedSimpArgs false
namespace Go.Proofs.YteamljekjncbfaaDoor.Pure
open Go.RowKit Go.Proofs.YteamljekjncbfaaDoor.P Go.Proofs.YteamljekjncbfaaDoorW.PrintWords Go.Proofs.YteamljekjncbfaaDoorW.PrintLast Go.Proofs.YteamljekjncbfaaDoorW.PrintMore
end Go.Proofs.YteamljekjncbfaaDoor.Pure
end
section
namespace Go.Proofs.YteamljekjncbfaaDoor.P
open Go.RowKit Go.Proofs.YteamljekjncbfaaDoorW.PrintWords Go.Proofs.YteamljekjncbfaaDoorW.PrintLast Go.Proofs.YteamljekjncbfaaDoorW.PrintMore
attribute [local go_sem] max2_int min2_int max_two min_two max_three min_three max_four min_four
set_option linter.unusedVariables false
set_option linter.unusedSimpArgs false
def record_links.f (a0 : Int) : Option (Int) := if a0 < 1 then (some 0) else ((bits_TrailingZeros.f (IntKind.u64.wrap (a0))).bind fun t249 => (some (wrap64 (t249 + 1))))
end Go.Proofs.YteamljekjncbfaaDoor.P
end
section
namespace Go.Proofs.YteamljekjncbfaaDoor.P
open Go.RowKit Go.Proofs.YteamljekjncbfaaDoorW.PrintWords Go.Proofs.YteamljekjncbfaaDoorW.PrintLast Go.Proofs.YteamljekjncbfaaDoorW.PrintMore
attribute [local go_sem] max2_int min2_int max_two min_two max_three min_three max_four min_four
set_option linter.unusedVariables false
set_option linter.unusedSimpArgs false
def record_sized.l0 : Nat → Int → List (List Int) → Int → Int → Option (Bool)
  | 0, _, _, _, _ => none
  | k + 1, x0, x7, x8, x9 => if x9 < x8 then (if 0 ≤ x9 then (if x9 < (x7.length : Int) then (if ((rd_L1 x7 x9).length : Int) = x0 then (record_sized.l0 k x0 x7 x8 (wrap64 (x9 + 1))) else (some false)) else (none)) else (none)) else (some true)
def record_sized.f (k : Nat) (a0 : Int) (l1 : List (List Int)) : Option (Bool) := record_sized.l0 k a0 l1 (l1.length : Int) 0
theorem record_sized.mono_l : ∀ k, (∀ y0 y1 y2 y3, LeO (record_sized.l0 k y0 y1 y2 y3) (record_sized.l0 (k + 1) y0 y1 y2 y3))
  | 0 => fun _ _ _ _ r h => by simp [record_sized.l0] at h
  | k + 1 => by
    have ih0 := record_sized.mono_l k
    · intro y0 y1 y2 y3
      unfold record_sized.l0
      repeat' first
      | (with_reducible exact ih0 _ _ _ _)
      | (with_reducible exact LeO.refl _)
      | (with_reducible exact LeO.none _)
      | (with_reducible refine LeO.ite ?_ ?_)
      | (with_reducible refine LeO.bind ?_ (fun _ => ?_))
      | exact ih0 _ _ _ _
      | exact LeO.none _
      | refine LeO.ite ?_ ?_
      | refine LeO.bind ?_ (fun _ => ?_)
theorem record_sized.mono : ∀ a0 a1 k, LeO (record_sized.f k a0 a1) (record_sized.f (k + 1) a0 a1) := by
  intro a0 a1 k
  have ih0 := record_sized.mono_l k
  unfold record_sized.f
  repeat' first
      | (with_reducible exact ih0 _ _ _ _)
      | (with_reducible exact LeO.refl _)
      | (with_reducible exact LeO.none _)
      | (with_reducible refine LeO.ite ?_ ?_)
      | (with_reducible refine LeO.bind ?_ (fun _ => ?_))
      | exact ih0 _ _ _ _
      | exact LeO.none _
      | refine LeO.ite ?_ ?_
      | refine LeO.bind ?_ (fun _ => ?_)
end Go.Proofs.YteamljekjncbfaaDoor.P
end
section
namespace Go.Proofs.YteamljekjncbfaaDoor.P
open Go.RowKit Go.Proofs.YteamljekjncbfaaDoorW.PrintWords Go.Proofs.YteamljekjncbfaaDoorW.PrintLast Go.Proofs.YteamljekjncbfaaDoorW.PrintMore
attribute [local go_sem] max2_int min2_int max_two min_two max_three min_three max_four min_four
set_option linter.unusedVariables false
set_option linter.unusedSimpArgs false
def record_within.f (a0 : Int) (a1 : Int) : Option (Bool) := if a0 ≥ 0 then (some (decide (a0 ≤ a1))) else (some false)
end Go.Proofs.YteamljekjncbfaaDoor.P
end
section
namespace Go.Proofs.YteamljekjncbfaaDoor.P
open Go.RowKit Go.Proofs.YteamljekjncbfaaDoorW.PrintWords Go.Proofs.YteamljekjncbfaaDoorW.PrintLast Go.Proofs.YteamljekjncbfaaDoorW.PrintMore
attribute [local go_sem] max2_int min2_int max_two min_two max_three min_three max_four min_four
set_option linter.unusedVariables false
set_option linter.unusedSimpArgs false
def record_Can.f (k : Nat) (a0 : Int) (a1_0 : Int) (a1_1 : Int) (l1_2 : List Int) (a1_3 : Int) (l1_4 : List Int) (l1_5 : List (List Int)) : Option (Bool) := (record_within.f (wrap64 (a0 - 1)) 31).bind fun t251 => (if t251 = true then ((record_within.f a1_0 255).bind fun t252 => (if t252 = true then ((record_within.f a1_1 1125899906842624).bind fun t253 => (if t253 = true then ((record_within.f a1_3 32).bind fun t254 => (if t254 = true then ((record_sized.f k a0 (([l1_2, l1_4] : List (List Int)))).bind fun t258 => (if t258 = true then ((record_links.f a1_0).bind fun t259 => (if (l1_5.length : Int) = t259 then ((record_sized.f k a0 l1_5).bind fun t260 => (some t260)) else (some false))) else (some false))) else (some false))) else (some false))) else (some false))) else (some false))
theorem record_Can.mono : ∀ a0 a1 a2 a3 a4 a5 a6 k, LeO (record_Can.f k a0 a1 a2 a3 a4 a5 a6) (record_Can.f (k + 1) a0 a1 a2 a3 a4 a5 a6) := by
  intro a0 a1 a2 a3 a4 a5 a6 k
  unfold record_Can.f
  repeat' first
      | (with_reducible exact record_sized.mono _ _ _)
      | (with_reducible exact LeO.refl _)
      | (with_reducible exact LeO.none _)
      | (with_reducible refine LeO.ite ?_ ?_)
      | (with_reducible refine LeO.bind ?_ (fun _ => ?_))
      | exact record_sized.mono _ _ _
      | exact LeO.none _
      | refine LeO.ite ?_ ?_
      | refine LeO.bind ?_ (fun _ => ?_)
def record_Can.B2 : List Nat := [0, 1, 3, 3, 11, 3, 35, 123, 255, 511, 1023, 2047, 4095, 8191, 2047, 18431, 51199, 131071, 262143, 524287, 1048575, 1048575, 3145727, 8388607, 16777215, 33554431]
end Go.Proofs.YteamljekjncbfaaDoor.P
end
section
namespace Go.Proofs.YteamljekjncbfaaDoor.P
open Go.RowKit Go.Proofs.YteamljekjncbfaaDoorW.PrintWords Go.Proofs.YteamljekjncbfaaDoorW.PrintLast Go.Proofs.YteamljekjncbfaaDoorW.PrintMore
attribute [local go_sem] max2_int min2_int max_two min_two max_three min_three max_four min_four
set_option linter.unusedVariables false
set_option linter.unusedSimpArgs false
def record_Encode.l0 : Nat → List Int → List (List Int) → Int → Int → Option (List Int × Int)
  | 0, _, _, _, _ => none
  | k + 1, x6, x33, x34, x35 => if x35 < x34 then (if 0 ≤ x35 then (if x35 < (x33.length : Int) then ((codec_Bytes.f k x6 (rd_L1 x33 x35)).bind fun t295 => (record_Encode.l0 k t295 x33 x34 (wrap64 (x35 + 1)))) else (none)) else (none)) else (some (x6, 0))
def record_Encode.f (k : Nat) (a0 : Int) (a1_0 : Int) (a1_1 : Int) (l1_2 : List Int) (a1_3 : Int) (l1_4 : List Int) (l1_5 : List (List Int)) : Option (List Int × Int) := (record_Can.f k a0 a1_0 a1_1 l1_2 a1_3 l1_4 l1_5).bind fun t278 => (if t278 = true then ((codec_Uint.f k ([] : List Int) a1_0).bind fun t279 => ((codec_Uint.f k t279 a1_1).bind fun t282 => ((codec_Bytes.f k t282 l1_2).bind fun t285 => ((codec_Uint.f k t285 a1_3).bind fun t288 => ((codec_Bytes.f k t288 l1_4).bind fun t291 => (record_Encode.l0 k t291 l1_5 (l1_5.length : Int) 0)))))) else (some (([] : List Int), 1)))
theorem record_Encode.mono_l : ∀ k, (∀ y0 y1 y2 y3, LeO (record_Encode.l0 k y0 y1 y2 y3) (record_Encode.l0 (k + 1) y0 y1 y2 y3))
  | 0 => fun _ _ _ _ r h => by simp [record_Encode.l0] at h
  | k + 1 => by
    have ih0 := record_Encode.mono_l k
    · intro y0 y1 y2 y3
      unfold record_Encode.l0
      repeat' first
      | (with_reducible exact ih0 _ _ _ _)
      | (with_reducible exact codec_Bytes.mono _ _ _)
      | (with_reducible exact codec_Uint.mono _ _ _)
      | (with_reducible exact record_Can.mono _ _ _ _ _ _ _ _)
      | (with_reducible exact LeO.refl _)
      | (with_reducible exact LeO.none _)
      | (with_reducible refine LeO.ite ?_ ?_)
      | (with_reducible refine LeO.bind ?_ (fun _ => ?_))
      | exact ih0 _ _ _ _
      | exact codec_Bytes.mono _ _ _
      | exact codec_Uint.mono _ _ _
      | exact record_Can.mono _ _ _ _ _ _ _ _
      | exact LeO.none _
      | refine LeO.ite ?_ ?_
      | refine LeO.bind ?_ (fun _ => ?_)
theorem record_Encode.mono : ∀ a0 a1 a2 a3 a4 a5 a6 k, LeO (record_Encode.f k a0 a1 a2 a3 a4 a5 a6) (record_Encode.f (k + 1) a0 a1 a2 a3 a4 a5 a6) := by
  intro a0 a1 a2 a3 a4 a5 a6 k
  have ih0 := record_Encode.mono_l k
  unfold record_Encode.f
  repeat' first
      | (with_reducible exact ih0 _ _ _ _)
      | (with_reducible exact codec_Bytes.mono _ _ _)
      | (with_reducible exact codec_Uint.mono _ _ _)
      | (with_reducible exact record_Can.mono _ _ _ _ _ _ _ _)
      | (with_reducible exact LeO.refl _)
      | (with_reducible exact LeO.none _)
      | (with_reducible refine LeO.ite ?_ ?_)
      | (with_reducible refine LeO.bind ?_ (fun _ => ?_))
      | exact ih0 _ _ _ _
      | exact codec_Bytes.mono _ _ _
      | exact codec_Uint.mono _ _ _
      | exact record_Can.mono _ _ _ _ _ _ _ _
      | exact LeO.none _
      | refine LeO.ite ?_ ?_
      | refine LeO.bind ?_ (fun _ => ?_)
end Go.Proofs.YteamljekjncbfaaDoor.P
end
section
namespace Go.Proofs.YteamljekjncbfaaDoor.P
open Go.RowKit Go.Proofs.YteamljekjncbfaaDoorW.PrintWords Go.Proofs.YteamljekjncbfaaDoorW.PrintLast Go.Proofs.YteamljekjncbfaaDoorW.PrintMore
attribute [local go_sem] max2_int min2_int max_two min_two max_three min_three max_four min_four
set_option linter.unusedVariables false
set_option linter.unusedSimpArgs false
def record_Hash.f (k : Nat) (a0 : Int) (a1_0 : Int) (a1_1 : Int) (l1_2 : List Int) (a1_3 : Int) (l1_4 : List Int) (l1_5 : List (List Int)) : Option (List Int) := (record_Encode.f k a0 a1_0 a1_1 l1_2 a1_3 l1_4 l1_5).bind fun bt299 => (if bt299.2 = 0 then ((texts_Hash.f k a0 5 (([bt299.1] : List (List Int)))).bind fun t306 => (some t306)) else (some ([] : List Int)))
theorem record_Hash.mono : ∀ a0 a1 a2 a3 a4 a5 a6 k, LeO (record_Hash.f k a0 a1 a2 a3 a4 a5 a6) (record_Hash.f (k + 1) a0 a1 a2 a3 a4 a5 a6) := by
  intro a0 a1 a2 a3 a4 a5 a6 k
  unfold record_Hash.f
  repeat' first
      | (with_reducible exact record_Encode.mono _ _ _ _ _ _ _ _)
      | (with_reducible exact texts_Hash.mono _ _ _ _)
      | (with_reducible exact LeO.refl _)
      | (with_reducible exact LeO.none _)
      | (with_reducible refine LeO.ite ?_ ?_)
      | (with_reducible refine LeO.bind ?_ (fun _ => ?_))
      | exact record_Encode.mono _ _ _ _ _ _ _ _
      | exact texts_Hash.mono _ _ _ _
      | exact LeO.none _
      | refine LeO.ite ?_ ?_
      | refine LeO.bind ?_ (fun _ => ?_)
end Go.Proofs.YteamljekjncbfaaDoor.P
end
section
namespace Go.Proofs.YteamljekjncbfaaDoor.P
open Go.RowKit Go.Proofs.YteamljekjncbfaaDoorW.PrintWords Go.Proofs.YteamljekjncbfaaDoorW.PrintLast Go.Proofs.YteamljekjncbfaaDoorW.PrintMore
attribute [local go_sem] max2_int min2_int max_two min_two max_three min_three max_four min_four
set_option linter.unusedVariables false
set_option linter.unusedSimpArgs false
def annalsref13_Links.l0 : Nat → Int → Int → Int → Option (Int)
  | 0, _, _, _ => none
  | k + 1, x0, x3, x4 => if x4 > 0 then (if x4 ≤ x0 then (if x4 = 0 then (none) else (if (Int.tmod x0 x4) = 0 then (annalsref13_Links.l0 k x0 (wrap64 (x3 + 1)) (wrap64 (2 * x4))) else (some x3))) else (some x3)) else (some x3)
def annalsref13_Links.f (k : Nat) (a0 : Int) : Option (Int) := annalsref13_Links.l0 k a0 0 1
theorem annalsref13_Links.mono_l : ∀ k, (∀ y0 y1 y2, LeO (annalsref13_Links.l0 k y0 y1 y2) (annalsref13_Links.l0 (k + 1) y0 y1 y2))
  | 0 => fun _ _ _ r h => by simp [annalsref13_Links.l0] at h
  | k + 1 => by
    have ih0 := annalsref13_Links.mono_l k
    · intro y0 y1 y2
      unfold annalsref13_Links.l0
      repeat' first
      | (with_reducible exact ih0 _ _ _)
      | (with_reducible exact LeO.refl _)
      | (with_reducible exact LeO.none _)
      | (with_reducible refine LeO.ite ?_ ?_)
      | (with_reducible refine LeO.bind ?_ (fun _ => ?_))
      | exact ih0 _ _ _
      | exact LeO.none _
      | refine LeO.ite ?_ ?_
      | refine LeO.bind ?_ (fun _ => ?_)
theorem annalsref13_Links.mono : ∀ a0 k, LeO (annalsref13_Links.f k a0) (annalsref13_Links.f (k + 1) a0) := by
  intro a0 k
  have ih0 := annalsref13_Links.mono_l k
  unfold annalsref13_Links.f
  repeat' first
      | (with_reducible exact ih0 _ _ _)
      | (with_reducible exact LeO.refl _)
      | (with_reducible exact LeO.none _)
      | (with_reducible refine LeO.ite ?_ ?_)
      | (with_reducible refine LeO.bind ?_ (fun _ => ?_))
      | exact ih0 _ _ _
      | exact LeO.none _
      | refine LeO.ite ?_ ?_
      | refine LeO.bind ?_ (fun _ => ?_)
end Go.Proofs.YteamljekjncbfaaDoor.P
end
section
set_option linter.unusedVariables false
set_option linter.unusedSimpArgs false
namespace Go.Proofs.YteamljekjncbfaaDoor.P
open Go.RowKit Go.Proofs.YteamljekjncbfaaDoorW.PrintWords Go.Proofs.YteamljekjncbfaaDoorW.PrintLast Go.Proofs.YteamljekjncbfaaDoorW.PrintMore
def sized (a0 : Int) (p : List Int) : Bool := decide ((p.length : Int) = a0)
def canBad (a0 e t : Int) (l2 : List Int) (c : Int) (l4 : List Int) : Prop := a0 < 1 ∨ 32 < a0 ∨ e < 0 ∨ 255 < e ∨ t < 0 ∨ 1125899906842624 < t ∨ c < 0 ∨ 32 < c ∨ (l2.length : Int) ≠ a0 ∨ (l4.length : Int) ≠ a0
instance (a0 e t : Int) (l2 : List Int) (c : Int) (l4 : List Int) : Decidable (canBad a0 e t l2 c l4) := by unfold canBad; infer_instance
def annalsref13_Can.f (k : Nat) (a0 e t : Int) (l2 : List Int) (c : Int) (l4 : List Int) (l5 : List (List Int)) : Option Bool :=
  if canBad a0 e t l2 c l4 then some false else (annalsref13_Links.f k e).bind fun n => if (l5.length : Int) ≠ n then some false else some (l5.all (sized a0))
theorem annalsref13_Can.mono : ∀ a0 a1 a2 a3 a4 a5 a6 k, LeO (annalsref13_Can.f k a0 a1 a2 a3 a4 a5 a6) (annalsref13_Can.f (k + 1) a0 a1 a2 a3 a4 a5 a6) := by
  intro a0 a1 a2 a3 a4 a5 a6 k
  unfold annalsref13_Can.f
  exact LeO.ite (LeO.refl _) (LeO.bind (annalsref13_Links.mono _ _) (fun _ => LeO.refl _))
end Go.Proofs.YteamljekjncbfaaDoor.P
end
section
namespace Go.Proofs.YteamljekjncbfaaDoor.P
open Go.RowKit Go.Proofs.YteamljekjncbfaaDoorW.PrintWords Go.Proofs.YteamljekjncbfaaDoorW.PrintLast Go.Proofs.YteamljekjncbfaaDoorW.PrintMore
attribute [local go_sem] max2_int min2_int max_two min_two max_three min_three max_four min_four
set_option linter.unusedVariables false
set_option linter.unusedSimpArgs false
def annalsref13_Encode.l0 : Nat → List Int → List (List Int) → Int → Int → Option (List Int × Int)
  | 0, _, _, _, _ => none
  | k + 1, x6, x31, x32, x33 => if x33 < x32 then (if 0 ≤ x33 then (if x33 < (x31.length : Int) then ((annalsref04_Bytes.f k x6 (rd_L1 x31 x33)).bind fun t399 => (annalsref13_Encode.l0 k t399 x31 x32 (wrap64 (x33 + 1)))) else (none)) else (none)) else (some (x6, 0))
def annalsref13_Encode.f (k : Nat) (a0 : Int) (a1_0 : Int) (a1_1 : Int) (l1_2 : List Int) (a1_3 : Int) (l1_4 : List Int) (l1_5 : List (List Int)) : Option (List Int × Int) := (annalsref13_Can.f k a0 a1_0 a1_1 l1_2 a1_3 l1_4 l1_5).bind fun t382 => (if t382 = true then ((annalsref04_Uint.f k ([] : List Int) a1_0).bind fun t383 => ((annalsref04_Uint.f k t383 a1_1).bind fun t386 => ((annalsref04_Bytes.f k t386 l1_2).bind fun t389 => ((annalsref04_Uint.f k t389 a1_3).bind fun t392 => ((annalsref04_Bytes.f k t392 l1_4).bind fun t395 => (annalsref13_Encode.l0 k t395 l1_5 (l1_5.length : Int) 0)))))) else (some (([] : List Int), 1)))
theorem annalsref13_Encode.mono_l : ∀ k, (∀ y0 y1 y2 y3, LeO (annalsref13_Encode.l0 k y0 y1 y2 y3) (annalsref13_Encode.l0 (k + 1) y0 y1 y2 y3))
  | 0 => fun _ _ _ _ r h => by simp [annalsref13_Encode.l0] at h
  | k + 1 => by
    have ih0 := annalsref13_Encode.mono_l k
    · intro y0 y1 y2 y3
      unfold annalsref13_Encode.l0
      repeat' first
      | (with_reducible exact ih0 _ _ _ _)
      | (with_reducible exact annalsref04_Bytes.mono _ _ _)
      | (with_reducible exact annalsref04_Uint.mono _ _ _)
      | (with_reducible exact annalsref13_Can.mono _ _ _ _ _ _ _ _)
      | (with_reducible exact LeO.refl _)
      | (with_reducible exact LeO.none _)
      | (with_reducible refine LeO.ite ?_ ?_)
      | (with_reducible refine LeO.bind ?_ (fun _ => ?_))
      | exact ih0 _ _ _ _
      | exact annalsref04_Bytes.mono _ _ _
      | exact annalsref04_Uint.mono _ _ _
      | exact annalsref13_Can.mono _ _ _ _ _ _ _ _
      | exact LeO.none _
      | refine LeO.ite ?_ ?_
      | refine LeO.bind ?_ (fun _ => ?_)
theorem annalsref13_Encode.mono : ∀ a0 a1 a2 a3 a4 a5 a6 k, LeO (annalsref13_Encode.f k a0 a1 a2 a3 a4 a5 a6) (annalsref13_Encode.f (k + 1) a0 a1 a2 a3 a4 a5 a6) := by
  intro a0 a1 a2 a3 a4 a5 a6 k
  have ih0 := annalsref13_Encode.mono_l k
  unfold annalsref13_Encode.f
  repeat' first
      | (with_reducible exact ih0 _ _ _ _)
      | (with_reducible exact annalsref04_Bytes.mono _ _ _)
      | (with_reducible exact annalsref04_Uint.mono _ _ _)
      | (with_reducible exact annalsref13_Can.mono _ _ _ _ _ _ _ _)
      | (with_reducible exact LeO.refl _)
      | (with_reducible exact LeO.none _)
      | (with_reducible refine LeO.ite ?_ ?_)
      | (with_reducible refine LeO.bind ?_ (fun _ => ?_))
      | exact ih0 _ _ _ _
      | exact annalsref04_Bytes.mono _ _ _
      | exact annalsref04_Uint.mono _ _ _
      | exact annalsref13_Can.mono _ _ _ _ _ _ _ _
      | exact LeO.none _
      | refine LeO.ite ?_ ?_
      | refine LeO.bind ?_ (fun _ => ?_)
end Go.Proofs.YteamljekjncbfaaDoor.P
end
section
namespace Go.Proofs.YteamljekjncbfaaDoor.P
open Go.RowKit Go.Proofs.YteamljekjncbfaaDoorW.PrintWords Go.Proofs.YteamljekjncbfaaDoorW.PrintLast Go.Proofs.YteamljekjncbfaaDoorW.PrintMore
attribute [local go_sem] max2_int min2_int max_two min_two max_three min_three max_four min_four
set_option linter.unusedVariables false
set_option linter.unusedSimpArgs false
def annalsref13_Hash.f (k : Nat) (a0 : Int) (a1_0 : Int) (a1_1 : Int) (l1_2 : List Int) (a1_3 : Int) (l1_4 : List Int) (l1_5 : List (List Int)) : Option (List Int) := (annalsref13_Encode.f k a0 a1_0 a1_1 l1_2 a1_3 l1_4 l1_5).bind fun bt403 => (if bt403.2 = 0 then ((annalsref02_Hash.f k a0 5 (([bt403.1] : List (List Int)))).bind fun t410 => (some t410)) else (some ([] : List Int)))
theorem annalsref13_Hash.mono : ∀ a0 a1 a2 a3 a4 a5 a6 k, LeO (annalsref13_Hash.f k a0 a1 a2 a3 a4 a5 a6) (annalsref13_Hash.f (k + 1) a0 a1 a2 a3 a4 a5 a6) := by
  intro a0 a1 a2 a3 a4 a5 a6 k
  unfold annalsref13_Hash.f
  repeat' first
      | (with_reducible exact annalsref02_Hash.mono _ _ _ _)
      | (with_reducible exact annalsref13_Encode.mono _ _ _ _ _ _ _ _)
      | (with_reducible exact LeO.refl _)
      | (with_reducible exact LeO.none _)
      | (with_reducible refine LeO.ite ?_ ?_)
      | (with_reducible refine LeO.bind ?_ (fun _ => ?_))
      | exact annalsref02_Hash.mono _ _ _ _
      | exact annalsref13_Encode.mono _ _ _ _ _ _ _ _
      | exact LeO.none _
      | refine LeO.ite ?_ ?_
      | refine LeO.bind ?_ (fun _ => ?_)
end Go.Proofs.YteamljekjncbfaaDoor.P
end
section
set_option linter.unusedVariables false
set_option linter.unusedSimpArgs false
namespace Go.Proofs.YteamljekjncbfaaDoor.P
open Go.RowKit Go.Proofs.YteamljekjncbfaaDoorW.PrintWords Go.Proofs.YteamljekjncbfaaDoorW.PrintLast Go.Proofs.YteamljekjncbfaaDoorW.PrintMore
end Go.Proofs.YteamljekjncbfaaDoor.P
end
section
namespace Go.Proofs.YteamljekjncbfaaDoor.P
open Go.RowKit Go.Proofs.YteamljekjncbfaaDoorW.PrintWords Go.Proofs.YteamljekjncbfaaDoorW.PrintLast Go.Proofs.YteamljekjncbfaaDoorW.PrintMore
attribute [local go_sem] max2_int min2_int max_two min_two max_three min_three max_four min_four
set_option linter.unusedVariables false
set_option linter.unusedSimpArgs false
mutual
def annalsref13_Same.j0 : Nat → Bool → Int → Int → List Int → Int → List Int → List (List Int) → Int → Int → List Int → Int → List Int → List (List Int) → Option (Bool)
  | 0, _, _, _, _, _, _, _, _, _, _, _, _, _ => none
  | k + 1, x51, x426000, x426001, x426002, x426003, x426004, x426005, x427000, x427001, x427002, x427003, x427004, x427005 => if x51 = true then (some false) else (annalsref13_Same.l0 k (x426005.length : Int) 0 x426000 x426001 x426002 x426003 x426004 x426005 x427000 x427001 x427002 x427003 x427004 x427005)
def annalsref13_Same.l0 : Nat → Int → Int → Int → Int → List Int → Int → List Int → List (List Int) → Int → Int → List Int → Int → List Int → List (List Int) → Option (Bool)
  | 0, _, _, _, _, _, _, _, _, _, _, _, _, _, _ => none
  | k + 1, x54, x55, x426000, x426001, x426002, x426003, x426004, x426005, x427000, x427001, x427002, x427003, x427004, x427005 => if x55 < x54 then (if 0 ≤ x55 then (if x55 < (x426005.length : Int) then (if x55 < (x427005.length : Int) then (if (strOfNums (rd_L1 x426005 x55)).toList = (strOfNums (rd_L1 x427005 x55)).toList then (annalsref13_Same.l0 k x54 (wrap64 (x55 + 1)) x426000 x426001 x426002 x426003 x426004 x426005 x427000 x427001 x427002 x427003 x427004 x427005) else (some false)) else (none)) else (none)) else (none)) else (some true)
end
def annalsref13_Same.f (k : Nat) (a0_0 : Int) (a0_1 : Int) (l0_2 : List Int) (a0_3 : Int) (l0_4 : List Int) (l0_5 : List (List Int)) (a1_0 : Int) (a1_1 : Int) (l1_2 : List Int) (a1_3 : Int) (l1_4 : List Int) (l1_5 : List (List Int)) : Option (Bool) := if a0_0 = a1_0 then (if a0_1 = a1_1 then (if (strOfNums l0_2).toList = (strOfNums l1_2).toList then (if a0_3 = a1_3 then (if (strOfNums l0_4).toList = (strOfNums l1_4).toList then (annalsref13_Same.j0 k ((l0_5.length : Int) != (l1_5.length : Int)) a0_0 a0_1 l0_2 a0_3 l0_4 l0_5 a1_0 a1_1 l1_2 a1_3 l1_4 l1_5) else (annalsref13_Same.j0 k true a0_0 a0_1 l0_2 a0_3 l0_4 l0_5 a1_0 a1_1 l1_2 a1_3 l1_4 l1_5)) else (annalsref13_Same.j0 k true a0_0 a0_1 l0_2 a0_3 l0_4 l0_5 a1_0 a1_1 l1_2 a1_3 l1_4 l1_5)) else (annalsref13_Same.j0 k true a0_0 a0_1 l0_2 a0_3 l0_4 l0_5 a1_0 a1_1 l1_2 a1_3 l1_4 l1_5)) else (annalsref13_Same.j0 k true a0_0 a0_1 l0_2 a0_3 l0_4 l0_5 a1_0 a1_1 l1_2 a1_3 l1_4 l1_5)) else (annalsref13_Same.j0 k true a0_0 a0_1 l0_2 a0_3 l0_4 l0_5 a1_0 a1_1 l1_2 a1_3 l1_4 l1_5)
theorem annalsref13_Same.mono_l : ∀ k, (∀ y0 y1 y2 y3 y4 y5 y6 y7 y8 y9 y10 y11 y12, LeO (annalsref13_Same.j0 k y0 y1 y2 y3 y4 y5 y6 y7 y8 y9 y10 y11 y12) (annalsref13_Same.j0 (k + 1) y0 y1 y2 y3 y4 y5 y6 y7 y8 y9 y10 y11 y12)) ∧ (∀ y0 y1 y2 y3 y4 y5 y6 y7 y8 y9 y10 y11 y12 y13, LeO (annalsref13_Same.l0 k y0 y1 y2 y3 y4 y5 y6 y7 y8 y9 y10 y11 y12 y13) (annalsref13_Same.l0 (k + 1) y0 y1 y2 y3 y4 y5 y6 y7 y8 y9 y10 y11 y12 y13))
  | 0 => ⟨fun _ _ _ _ _ _ _ _ _ _ _ _ _ r h => by simp [annalsref13_Same.j0] at h, fun _ _ _ _ _ _ _ _ _ _ _ _ _ _ r h => by simp [annalsref13_Same.l0] at h⟩
  | k + 1 => by
    obtain ⟨ih0, ih1⟩ := annalsref13_Same.mono_l k
    refine ⟨?_, ?_⟩
    · intro y0 y1 y2 y3 y4 y5 y6 y7 y8 y9 y10 y11 y12
      unfold annalsref13_Same.j0
      repeat' first
      | (with_reducible exact ih0 _ _ _ _ _ _ _ _ _ _ _ _ _)
      | (with_reducible exact ih1 _ _ _ _ _ _ _ _ _ _ _ _ _ _)
      | (with_reducible exact LeO.refl _)
      | (with_reducible exact LeO.none _)
      | (with_reducible refine LeO.ite ?_ ?_)
      | (with_reducible refine LeO.bind ?_ (fun _ => ?_))
      | exact ih0 _ _ _ _ _ _ _ _ _ _ _ _ _
      | exact ih1 _ _ _ _ _ _ _ _ _ _ _ _ _ _
      | exact LeO.none _
      | refine LeO.ite ?_ ?_
      | refine LeO.bind ?_ (fun _ => ?_)
    · intro y0 y1 y2 y3 y4 y5 y6 y7 y8 y9 y10 y11 y12 y13
      unfold annalsref13_Same.l0
      repeat' first
      | (with_reducible exact ih0 _ _ _ _ _ _ _ _ _ _ _ _ _)
      | (with_reducible exact ih1 _ _ _ _ _ _ _ _ _ _ _ _ _ _)
      | (with_reducible exact LeO.refl _)
      | (with_reducible exact LeO.none _)
      | (with_reducible refine LeO.ite ?_ ?_)
      | (with_reducible refine LeO.bind ?_ (fun _ => ?_))
      | exact ih0 _ _ _ _ _ _ _ _ _ _ _ _ _
      | exact ih1 _ _ _ _ _ _ _ _ _ _ _ _ _ _
      | exact LeO.none _
      | refine LeO.ite ?_ ?_
      | refine LeO.bind ?_ (fun _ => ?_)
theorem annalsref13_Same.mono : ∀ a0 a1 a2 a3 a4 a5 a6 a7 a8 a9 a10 a11 k, LeO (annalsref13_Same.f k a0 a1 a2 a3 a4 a5 a6 a7 a8 a9 a10 a11) (annalsref13_Same.f (k + 1) a0 a1 a2 a3 a4 a5 a6 a7 a8 a9 a10 a11) := by
  intro a0 a1 a2 a3 a4 a5 a6 a7 a8 a9 a10 a11 k
  obtain ⟨ih0, ih1⟩ := annalsref13_Same.mono_l k
  unfold annalsref13_Same.f
  repeat' first
      | (with_reducible exact ih0 _ _ _ _ _ _ _ _ _ _ _ _ _)
      | (with_reducible exact ih1 _ _ _ _ _ _ _ _ _ _ _ _ _ _)
      | (with_reducible exact LeO.refl _)
      | (with_reducible exact LeO.none _)
      | (with_reducible refine LeO.ite ?_ ?_)
      | (with_reducible refine LeO.bind ?_ (fun _ => ?_))
      | exact ih0 _ _ _ _ _ _ _ _ _ _ _ _ _
      | exact ih1 _ _ _ _ _ _ _ _ _ _ _ _ _ _
      | exact LeO.none _
      | refine LeO.ite ?_ ?_
      | refine LeO.bind ?_ (fun _ => ?_)
end Go.Proofs.YteamljekjncbfaaDoor.P
end
section
set_option linter.unusedVariables false
set_option linter.unusedSimpArgs false
namespace Go.Proofs.YteamljekjncbfaaDoor.P
open Go.RowKit Go.Proofs.YteamljekjncbfaaDoorW.PrintWords Go.Proofs.YteamljekjncbfaaDoorW.PrintLast Go.Proofs.YteamljekjncbfaaDoorW.PrintMore
def bytes_Clone.f (l0 : List Int) : Option (List Int) := if l0.length < 140737488355328 then some l0 else none
end Go.Proofs.YteamljekjncbfaaDoor.P
end
section
namespace Go.Proofs.YteamljekjncbfaaDoor.P
open Go.RowKit Go.Proofs.YteamljekjncbfaaDoorW.PrintWords Go.Proofs.YteamljekjncbfaaDoorW.PrintLast Go.Proofs.YteamljekjncbfaaDoorW.PrintMore
attribute [local go_sem] max2_int min2_int max_two min_two max_three min_three max_four min_four
set_option linter.unusedVariables false
set_option linter.unusedSimpArgs false
def skip_own.l0 : Nat → List (List Int) → List (List Int) → Int → Int → Int → Int → List Int → Int → List Int → List (List Int) → Option (Int × Int × List Int × Int × List Int × (List (List Int)))
  | 0, _, _, _, _, _, _, _, _, _, _ => none
  | k + 1, x3, x15, x16, x17, x310000, x310001, x310002, x310003, x310004, x310005 => if x17 < x16 then (if 0 ≤ x17 then (if x17 < (x15.length : Int) then ((bytes_Clone.f (rd_L1 x15 x17)).bind fun t318 => (if x3.length < 5864062014805 then (skip_own.l0 k (x3 ++ [t318]) x15 x16 (wrap64 (x17 + 1)) x310000 x310001 x310002 x310003 x310004 x310005) else (none))) else (none)) else (none)) else (some (x310000, x310001, x310002, x310003, x310004, x3))
def skip_own.f (k : Nat) (a0_0 : Int) (a0_1 : Int) (l0_2 : List Int) (a0_3 : Int) (l0_4 : List Int) (l0_5 : List (List Int)) : Option (Int × Int × List Int × Int × List Int × (List (List Int))) := (bytes_Clone.f l0_2).bind fun t311 => ((bytes_Clone.f l0_4).bind fun t314 => (skip_own.l0 k ([] : List (List Int)) l0_5 (l0_5.length : Int) 0 a0_0 a0_1 t311 a0_3 t314 l0_5))
theorem skip_own.mono_l : ∀ k, (∀ y0 y1 y2 y3 y4 y5 y6 y7 y8 y9, LeO (skip_own.l0 k y0 y1 y2 y3 y4 y5 y6 y7 y8 y9) (skip_own.l0 (k + 1) y0 y1 y2 y3 y4 y5 y6 y7 y8 y9))
  | 0 => fun _ _ _ _ _ _ _ _ _ _ r h => by simp [skip_own.l0] at h
  | k + 1 => by
    have ih0 := skip_own.mono_l k
    · intro y0 y1 y2 y3 y4 y5 y6 y7 y8 y9
      unfold skip_own.l0
      repeat' first
      | (with_reducible exact ih0 _ _ _ _ _ _ _ _ _ _)
      | (with_reducible exact LeO.refl _)
      | (with_reducible exact LeO.none _)
      | (with_reducible refine LeO.ite ?_ ?_)
      | (with_reducible refine LeO.bind ?_ (fun _ => ?_))
      | exact ih0 _ _ _ _ _ _ _ _ _ _
      | exact LeO.none _
      | refine LeO.ite ?_ ?_
      | refine LeO.bind ?_ (fun _ => ?_)
theorem skip_own.mono : ∀ a0 a1 a2 a3 a4 a5 k, LeO (skip_own.f k a0 a1 a2 a3 a4 a5) (skip_own.f (k + 1) a0 a1 a2 a3 a4 a5) := by
  intro a0 a1 a2 a3 a4 a5 k
  have ih0 := skip_own.mono_l k
  unfold skip_own.f
  repeat' first
      | (with_reducible exact ih0 _ _ _ _ _ _ _ _ _ _)
      | (with_reducible exact LeO.refl _)
      | (with_reducible exact LeO.none _)
      | (with_reducible refine LeO.ite ?_ ?_)
      | (with_reducible refine LeO.bind ?_ (fun _ => ?_))
      | exact ih0 _ _ _ _ _ _ _ _ _ _
      | exact LeO.none _
      | refine LeO.ite ?_ ?_
      | refine LeO.bind ?_ (fun _ => ?_)
def skip_own.B1 : List Nat := [0, 1, 3, 0, 8, 31, 31, 127, 255, 511]
end Go.Proofs.YteamljekjncbfaaDoor.P
end
section
set_option linter.unusedVariables false
set_option linter.unusedSimpArgs false
namespace Go.Proofs.YteamljekjncbfaaDoor.Pure
open Go.RowKit Go.Proofs.YteamljekjncbfaaDoor.P Go.Proofs.YteamljekjncbfaaDoorW.PrintWords Go.Proofs.YteamljekjncbfaaDoorW.PrintLast Go.Proofs.YteamljekjncbfaaDoorW.PrintMore
abbrev Rec := S40
def linksN (e : Int) : Nat := if e < 1 then 0 else vz e.toNat + 1
def CanR (size : Int) (r : Rec) : Prop := (1 ≤ size ∧ size ≤ 32) ∧ (0 ≤ r.f0 ∧ r.f0 ≤ 255) ∧ (0 ≤ r.f1 ∧ r.f1 ≤ 1125899906842624) ∧ (0 ≤ r.f3 ∧ r.f3 ≤ 32) ∧ ((r.f2.length : Int) = size ∧ (r.f4.length : Int) = size) ∧ r.f5.length = linksN r.f0 ∧ ∀ p ∈ r.f5, (p.length : Int) = size
instance (size : Int) (r : Rec) : Decidable (CanR size r) := by unfold CanR; infer_instance
structure RecOk (r : Rec) : Prop where
  e0 : -9223372036854775808 ≤ r.f0
  e1 : r.f0 < 9223372036854775808
  t2 : BytesOk r.f2
  t4 : BytesOk r.f4
  t5 : ∀ p ∈ r.f5, BytesOk p
end Go.Proofs.YteamljekjncbfaaDoor.Pure
end
section
set_option linter.unusedVariables false
set_option linter.unusedSimpArgs false
namespace Go.Proofs.YteamljekjncbfaaDoor.P
open Go.RowKit Go.Proofs.YteamljekjncbfaaDoor.Pure Go.Proofs.YteamljekjncbfaaDoorW.PrintWords Go.Proofs.YteamljekjncbfaaDoorW.PrintLast Go.Proofs.YteamljekjncbfaaDoorW.PrintMore
structure Rows6 where
  A2 : Option Addr
  c2 : Nat
  A4 : Option Addr
  c4 : Nat
  A5 : Option Addr
  c5 : Nat
def recL (x : Rec) (p : Rows6) : List Value := [.int .i64 x.f0, .int .i64 x.f1, .slice p.A2 x.f2.length p.c2, .int .i64 x.f3, .slice p.A4 x.f4.length p.c4, .slice p.A5 x.f5.length p.c5]
structure RecC (w : World) (p : Rows6) (x : Rec) : Prop where
  l2 : x.f2.length ≤ p.c2
  g2 : Kd.C (Kd.int .u8) w p.A2 x.f2.length x.f2
  l4 : x.f4.length ≤ p.c4
  g4 : Kd.C (Kd.int .u8) w p.A4 x.f4.length x.f4
  l5 : x.f5.length ≤ p.c5
  g5 : Kd.C (Kd.slice 5 (Kd.int .u8)) w p.A5 x.f5.length x.f5
theorem RecC.below {w w1 : World} {p : Rows6} {x : Rec} (h : RecC w p x) (hb : Below w.heap.size w w1) : RecC w1 p x :=
  ⟨h.l2, Kd.C_below h.g2 hb, h.l4, Kd.C_below h.g4 hb, h.l5, Kd.C_below h.g5 hb⟩
def RecB (w : World) (g : Nat) (x : Rec) (p : Rows6) : Prop := w.heap[g]? = some (.cells (recL x p).toArray 40 (0, 0))
theorem RecB.below {w w1 : World} {g : Nat} {x : Rec} {p : Rows6} (h : RecB w g x p) (hb : Below w.heap.size w w1) : RecB w1 g x p := blk_below h hb
theorem RecB.lt {w : World} {g : Nat} {x : Rec} {p : Rows6} (h : RecB w g x p) : g < w.heap.size := blk_lt h
theorem RecB.cells {w : World} {g : Nat} {x : Rec} {p : Rows6} (h : RecB w g x p) : w.cell? ⟨g, 0, none⟩ = some (.int .i64 x.f0) ∧ w.cell? ⟨g, 1, none⟩ = some (.int .i64 x.f1) ∧ w.cell? ⟨g, 2, none⟩ = some (.slice p.A2 x.f2.length p.c2) ∧
    w.cell? ⟨g, 3, none⟩ = some (.int .i64 x.f3) ∧ w.cell? ⟨g, 4, none⟩ = some (.slice p.A4 x.f4.length p.c4) ∧ w.cell? ⟨g, 5, none⟩ = some (.slice p.A5 x.f5.length p.c5) :=
  ⟨blk_cell h 0, blk_cell h 1, blk_cell h 2, blk_cell h 3, blk_cell h 4, blk_cell h 5⟩
def z6 : Rows6 := ⟨none, 0, none, 0, none, 0⟩
theorem RecC.zero (w : World) : RecC w z6 z40 := ⟨Nat.le_refl _, Kd.C_nil _ w, Nat.le_refl _, Kd.C_nil _ w, Nat.le_refl _, Kd.C_nil _ w⟩
end Go.Proofs.YteamljekjncbfaaDoor.P
end
section
namespace Go.Proofs.YteamljekjncbfaaDoor.P
open Go.RowKit Go.Proofs.YteamljekjncbfaaDoorW.PrintWords Go.Proofs.YteamljekjncbfaaDoorW.PrintLast Go.Proofs.YteamljekjncbfaaDoorW.PrintMore
attribute [local go_sem] max2_int min2_int max_two min_two max_three min_three max_four min_four
set_option linter.unusedVariables false
set_option linter.unusedSimpArgs false
def bytes_Equal.f (l0 : List Int) (l1 : List Int) : Option (Bool) := some ((strOfNums l0).toList == (strOfNums l1).toList)
end Go.Proofs.YteamljekjncbfaaDoor.P
end
section
set_option linter.unusedVariables false
set_option linter.unusedSimpArgs false
namespace Go.Proofs.YteamljekjncbfaaDoor.P
open Go.RowKit Go.Proofs.YteamljekjncbfaaDoor.Pure Go.Proofs.YteamljekjncbfaaDoorW.PrintWords Go.Proofs.YteamljekjncbfaaDoorW.PrintLast Go.Proofs.YteamljekjncbfaaDoorW.PrintMore
def RecR (base : Nat) (w : World) (p : Rows6) (x : Rec) : Prop :=
  Kd.R (Kd.int .u8) 5 w base (fun _ => True) (.slice p.A2 x.f2.length p.c2) x.f2 ∧ Kd.R (Kd.int .u8) 5 w base (fun _ => True) (.slice p.A4 x.f4.length p.c4) x.f4 ∧ Kd.R (Kd.slice 5 (Kd.int .u8)) 33 w base (fun _ => True) (.slice p.A5 x.f5.length p.c5) x.f5
theorem RecR.zero (base : Nat) (w : World) : RecR base w z6 z40 := ⟨Kd.R_nil _ _ _ _ _, Kd.R_nil _ _ _ _ _, Kd.R_nil _ _ _ _ _⟩
theorem RecR.below {base : Nat} {w w1 : World} {p : Rows6} {x : Rec} (h : RecR base w p x) (hb : Below w.heap.size w w1) : RecR base w1 p x := ⟨Kd.R_below h.1 hb, Kd.R_below h.2.1 hb, Kd.R_below h.2.2 hb⟩
end Go.Proofs.YteamljekjncbfaaDoor.P
end
section
set_option linter.unusedVariables false
set_option linter.unusedSimpArgs false
namespace Go.Proofs.YteamljekjncbfaaDoor.P
open Go.RowKit Go.Proofs.YteamljekjncbfaaDoor.Pure Go.Proofs.YteamljekjncbfaaDoorW.PrintWords Go.Proofs.YteamljekjncbfaaDoorW.PrintLast Go.Proofs.YteamljekjncbfaaDoorW.PrintMore
end Go.Proofs.YteamljekjncbfaaDoor.P
end
section
set_option linter.unusedVariables false
set_option linter.unusedSimpArgs false
namespace Go.Proofs.YteamljekjncbfaaDoor.P
open Go.RowKit Go.Proofs.YteamljekjncbfaaDoor.Pure Go.Proofs.YteamljekjncbfaaDoorW.PrintWords Go.Proofs.YteamljekjncbfaaDoorW.PrintLast Go.Proofs.YteamljekjncbfaaDoorW.PrintMore
def SameR (a b : Rec) : Prop := a.f0 = b.f0 ∧ a.f1 = b.f1 ∧ a.f2 = b.f2 ∧ a.f3 = b.f3 ∧ a.f4 = b.f4 ∧ a.f5 = b.f5
instance (a b : Rec) : Decidable (SameR a b) := by unfold SameR; infer_instance
theorem SameR.refl (a : Rec) : SameR a a := ⟨rfl, rfl, rfl, rfl, rfl, rfl⟩
attribute [local go_sem] max2_int min2_int max_two min_two
end Go.Proofs.YteamljekjncbfaaDoor.P
end
section
set_option linter.unusedVariables false
set_option linter.unusedSimpArgs false
namespace Go.Proofs.YteamljekjncbfaaDoor.P
open Go.RowKit Go.ChangeShapes Go.WideShapes Go.Proofs.YteamljekjncbfaaDoor.Pure Go.Proofs.YteamljekjncbfaaDoorW.PrintWords Go.Proofs.YteamljekjncbfaaDoorW.PrintLast Go.Proofs.YteamljekjncbfaaDoorW.PrintMore
theorem opensByte : Opens Tryd.prog 5 (Kd.int .u8) (fun n => (Lit.int .u8 n).wf = true) := Opens.int Tryd.underlying5 (by kernel_rfl)
theorem opensInt : Opens Tryd.prog 3 (Kd.int .i64) (fun n => (Lit.int .i64 n).wf = true) := Opens.int Tryd.underlying3 (by kernel_rfl)
theorem opensBytes : Opens Tryd.prog 33 (Kd.slice 5 (Kd.int .u8)) (fun xs => xs.length * Tryd.prog.bytesOf 5 ≤ reachBytes ∧ ∀ a, a ∈ xs → (Lit.int .u8 a).wf = true) := Opens.slice Tryd.underlying33 (by kernel_rfl) opensByte
theorem each_mem {H : Type} {P : Program} : ∀ {ts : List TypeId} {ds : List (DataW H)} (h : (DataW.weightsEach P ts ds).all (· ≤ reachBytes) = true) (j : Nat) (t : TypeId) (d : DataW H), ts[j]? = some t → ds[j]? = some d → ∀ n ∈ d.weights P t, n ≤ reachBytes
  | [], _, _, j, t, d, ht, _ => by simp at ht
  | t0 :: ts, [], _, j, t, d, _, hd => by simp at hd
  | t0 :: ts, d0 :: ds, h, j, t, d, ht, hd => by
    simp only [DataW.weightsEach, List.all_append, Bool.and_eq_true] at h
    cases j with
    | zero =>
      obtain rfl := Option.some.inj ht
      obtain rfl := Option.some.inj hd
      intro n hn
      have := List.all_eq_true.1 h.1 n hn
      simpa using this
    | succ j => exact each_mem h.2 j t d (by simpa using ht) (by simpa using hd)
section
variable {H : Type} {enc : TypeId × Value → H} {w : World} {base : Nat} {spare : Nat → Bool} {held : Bool} {r : Reach} {b0 : Nat} {v : Value} {d : DataW H} {p : List MemPlace}
end
end Go.Proofs.YteamljekjncbfaaDoor.P
end
section
set_option linter.unusedVariables false
set_option linter.unusedSimpArgs false
namespace Go.Proofs.YteamljekjncbfaaDoor.P
open Go.RowKit Go.ChangeShapes Go.WideShapes Go.Proofs.YteamljekjncbfaaDoor.Pure Go.Proofs.YteamljekjncbfaaDoorW.PrintWords Go.Proofs.YteamljekjncbfaaDoorW.PrintLast Go.Proofs.YteamljekjncbfaaDoorW.PrintMore
theorem opensInts : Opens Tryd.prog 23 (Kd.slice 3 (Kd.int .i64)) (fun xs => xs.length * Tryd.prog.bytesOf 3 ≤ reachBytes ∧ ∀ a, a ∈ xs → (Lit.int .i64 a).wf = true) := Opens.slice Tryd.underlying23 (by kernel_rfl) opensInt
section
variable {H : Type} {enc : TypeId × Value → H} {w : World} {base : Nat} {spare : Nat → Bool} {held : Bool} {r : Reach} {b0 : Nat} {v : Value} {d : DataW H} {p : List MemPlace}
set_option maxRecDepth 100000 in
theorem do_param (hv : Value.okWide Tryd.prog w r b0 49 v) (h : DataW.Trod enc Tryd.prog w base spare held 49 v d p) (hw : ∀ n ∈ d.weights Tryd.prog 49, n ≤ reachBytes) :
    ∃ (a b c e : Int) (vx vy vr : Value), v = .agg #[.int .i64 a, .int .i64 b, .int .i64 c, .int .i64 e, vx, vy, vr] := by
  obtain ⟨cs, rfl, hsz⟩ := okWide_struct Tryd.underlying49 hv
  obtain ⟨fuel, hf⟩ := h
  obtain ⟨x, hK, ho⟩ := (Opens.struct (P := Tryd.prog) (t := 49) Tryd.underlying49 (by kernel_rfl) (OpensF.cons rfl rfl opensInt rfl (OpensF.cons rfl rfl opensInt rfl (OpensF.cons rfl rfl opensInt rfl (OpensF.cons rfl rfl opensInt rfl (OpensF.cons rfl rfl opensBytes rfl (OpensF.cons rfl rfl opensBytes rfl (OpensF.one rfl rfl opensInts)))))))).get (cs := cs.toList) hf hw
  obtain ⟨_, _, h1, rfl, ⟨_, _, rfl, rfl, ⟨_, _, rfl, rfl, ⟨_, _, rfl, rfl, ⟨_, _, rfl, ⟨A4, c4, rfl, l4, g4⟩, ⟨_, _, rfl, ⟨A5, c5, rfl, l5, g5⟩, ⟨A6, c6, rfl, l6, g6⟩⟩⟩⟩⟩⟩⟩ := hK
  exact ⟨_, _, _, _, _, _, _, congrArg Value.agg (Array.ext' h1)⟩
end
end Go.Proofs.YteamljekjncbfaaDoor.P
end
section
namespace Go.Proofs.YteamljekjncbfaaDoorW.PrintWords
open Go.ChangeShapes Go.WideShapes
end Go.Proofs.YteamljekjncbfaaDoorW.PrintWords
end
