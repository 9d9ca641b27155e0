/- Lemmas of this claim, part 0. -/
import Derived.Test.YtbedgjjiinhpkaaDoorProg
import Derived.Below
import Derived.Deep.Draws
import Derived.Deep.AppendLies
import Derived.Maps.AppendAt
import Derived.OwnWalk
import Derived.Laws.BytesArg
import Derived.Laws.MakeOwn
import Derived.Laws.OwnMore
import Derived.Deep.OwnRows
import Derived.Tactics
import Derived.Lib.ConvBytes
import Derived.Laws.Slices
import Derived.WalkKit
import Derived.KernelRfl
import Derived.RowKit3
import Derived.Deep.LoopGhost
import Derived.Deep.QuietTactic
import Derived.BigQuiet
import Derived.WideLaws
import Derived.Deep.DeepCutAuto
import Derived.Deep.CutBlock
import Derived.Deep.RegionHeld3
import Derived.Laws.Rows
import Derived.Lib.AppendStr
import Derived.ArgAppend
import Derived.Laws.IdiomCopy
import Derived.OrdersHeld
import Derived.Laws.BitsLemmas
import Derived.RowKit
import Derived.Test.YtbedgjjiinhpkaaDoorWWords
import Derived.Test.YtbedgjjiinhpkaaDoorWLast
import Derived.Test.YtbedgjjiinhpkaaDoorWTab
import Derived.Test.YtbedgjjiinhpkaaDoorWFour
import Derived.Test.YtbedgjjiinhpkaaDoorWQPut
import Derived.Test.YtbedgjjiinhpkaaDoorWApart
import Derived.Test.YtbedgjjiinhpkaaDoorWArr
import Derived.Test.YtbedgjjiinhpkaaDoorWZeros
import Derived.Test.YtbedgjjiinhpkaaDoorWFoot
import Derived.Test.YtbedgjjiinhpkaaDoorWKept
import Derived.Test.YtbedgjjiinhpkaaDoorWShare
import Derived.Test.YtbedgjjiinhpkaaDoorWN
import Derived.Test.YtbedgjjiinhpkaaDoorWFootNe
import Derived.Test.YtbedgjjiinhpkaaDoorWAt
import Derived.Test.YtbedgjjiinhpkaaDoorWEqStruct
import Derived.Test.YtbedgjjiinhpkaaDoorWRepsOne
import Derived.Test.YtbedgjjiinhpkaaDoorWInv
import Derived.Test.YtbedgjjiinhpkaaDoorWInvWords
import Derived.Test.YtbedgjjiinhpkaaDoorWGuard
import Derived.Test.YtbedgjjiinhpkaaDoorWNEv
import Derived.Test.YtbedgjjiinhpkaaDoorWMore
import Derived.WalkSpells
import Derived.WalkLawsBesides
import Derived.IntWalk
import Derived.Lib.TrailingZeros
import Derived.StillTailTactics
-- PBase
namespace Go.Proofs.YtbedgjjiinhpkaaDoor.P
open Go.RowKit Go.Proofs.YtbedgjjiinhpkaaDoorW.PrintWords Go.Proofs.YtbedgjjiinhpkaaDoorW.PrintLast Go.Proofs.YtbedgjjiinhpkaaDoorW.PrintMore
attribute [local go_sem] max2_int min2_int max_two min_two max_three min_three max_four min_four   -- for this text's walks alone
set_option linter.unusedVariables false
set_option linter.unusedSimpArgs false



def errW : Option Int → Value
  | none => .nilIface
  | some c => .iface 0 (.int .i64 c)
theorem errW_none : errW none = .nilIface := rfl
theorem errW_some (c : Int) : errW (some c) = .iface 0 (.int .i64 c) := rfl

theorem info3 : (Tryd.prog.info? 3).map (fun i => (i.zero, i.size, i.bytes)) = some (some (.int .i64 0), 1, 8) := by kernel_rfl
theorem info5 : (Tryd.prog.info? 5).map (fun i => (i.zero, i.size, i.bytes)) = some (some (.int .u8 0), 1, 1) := by kernel_rfl
theorem info33 : (Tryd.prog.info? 33).map (fun i => (i.zero, i.size, i.bytes)) = some (some (.slice none 0 0), 1, 24) := by kernel_rfl
-- the values' own types
def rd_L1 (xs : List (List Int)) (i : Int) : (List Int) := xs.getD i.toNat ([] : List Int)
theorem at_L1 {w : World} {A : Option Addr} {n : Nat} {xs : List (List Int)} (h : Kd.C (Kd.slice 5 (Kd.int .u8)) w A n xs) (i : Int) (h0 : 0 ≤ i) (h1 : i < n) : ∃ ad A0 c0, A = some ad ∧ w.cell? (ad.add i.toNat) = some (.slice A0 (rd_L1 xs i).length c0) ∧ (rd_L1 xs i).length ≤ c0 ∧ (Kd.int .u8).C w A0 (rd_L1 xs i).length (rd_L1 xs i) := by
  obtain ⟨ad, c, e, _, hK, hc0⟩ := Kd.C_get h ([] : List Int) i h0 h1
  have hc : ∀ j u, c[j]? = some u → w.cell? (ad.add (i.toNat * 1 + j)) = some u := hc0
  obtain ⟨A0, c0, rfl, l0, g0⟩ := hK
  exact ⟨ad, A0, c0, e, by have hq := hc 0 _ rfl; rwa [Nat.mul_one, Nat.add_zero] at hq, l0, g0⟩

def rd_L3 (xs : List (List (List Int))) (i : Int) : (List (List Int)) := xs.getD i.toNat ([] : List (List Int))
theorem at_L3 {w : World} {A : Option Addr} {n : Nat} {xs : List (List (List Int))} (h : Kd.C (Kd.slice 33 (Kd.slice 5 (Kd.int .u8))) w A n xs) (i : Int) (h0 : 0 ≤ i) (h1 : i < n) : ∃ ad A0 c0, A = some ad ∧ w.cell? (ad.add i.toNat) = some (.slice A0 (rd_L3 xs i).length c0) ∧ (rd_L3 xs i).length ≤ c0 ∧ (Kd.slice 5 (Kd.int .u8)).C w A0 (rd_L3 xs i).length (rd_L3 xs i) := by
  obtain ⟨ad, c, e, _, hK, hc0⟩ := Kd.C_get h ([] : List (List Int)) i h0 h1
  have hc : ∀ j u, c[j]? = some u → w.cell? (ad.add (i.toNat * 1 + j)) = some u := hc0
  obtain ⟨A0, c0, rfl, l0, g0⟩ := hK
  exact ⟨ad, A0, c0, e, by have hq := hc 0 _ rfl; rwa [Nat.mul_one, Nat.add_zero] at hq, l0, g0⟩

/-! #### struct type 40 -/
structure S40 where
  f0 : Int
  f1 : Int
  f2 : (List Int)
  f3 : Int
  f4 : (List Int)
  f5 : (List (List Int))
def z40 : S40 := ⟨(0 : Int), (0 : Int), ([] : List Int), (0 : Int), ([] : List Int), ([] : List (List Int))⟩
def k40 : Kd S40 := Kd.iso (Kd.pair (Kd.int .i64) (Kd.pair (Kd.int .i64) (Kd.pair (Kd.slice 5 (Kd.int .u8)) (Kd.pair (Kd.int .i64) (Kd.pair (Kd.slice 5 (Kd.int .u8)) (Kd.slice 33 (Kd.slice 5 (Kd.int .u8)))))))) (fun x : S40 => (x.f0, x.f1, x.f2, x.f3, x.f4, x.f5))
theorem k40_heap : Kd.Heap k40 := Kd.heap_iso _ (Kd.heap_pair (Kd.heap_int .i64) (Kd.heap_pair (Kd.heap_int .i64) (Kd.heap_pair (Kd.heap_slice 5 (Kd.heap_int .u8)) (Kd.heap_pair (Kd.heap_int .i64) (Kd.heap_pair (Kd.heap_slice 5 (Kd.heap_int .u8)) (Kd.heap_slice 33 (Kd.heap_slice 5 (Kd.heap_int .u8))))))))
theorem k40_open {w : World} {x : S40} {cs : List Value} (h : k40.K w x cs) : ∃ A2 c2 A4 c4 A5 c5, cs = [.int .i64 x.f0, .int .i64 x.f1, .slice A2 x.f2.length c2, .int .i64 x.f3, .slice A4 x.f4.length c4, .slice A5 x.f5.length c5] ∧ x.f2.length ≤ c2 ∧ (Kd.int .u8).C w A2 x.f2.length x.f2 ∧ x.f4.length ≤ c4 ∧ (Kd.int .u8).C w A4 x.f4.length x.f4 ∧ x.f5.length ≤ c5 ∧ (Kd.slice 5 (Kd.int .u8)).C w A5 x.f5.length x.f5 := by
  obtain ⟨_, _, rfl, rfl, ⟨_, _, rfl, rfl, ⟨_, _, rfl, ⟨A2, c2, rfl, l2, g2⟩, ⟨_, _, rfl, rfl, ⟨_, _, rfl, ⟨A4, c4, rfl, l4, g4⟩, ⟨A5, c5, rfl, l5, g5⟩⟩⟩⟩⟩⟩ := h
  exact ⟨A2, c2, A4, c4, A5, c5, rfl, l2, g2, l4, g4, l5, g5⟩
theorem k40_openM {w : World} {base : Nat} {ok : Nat → Prop} {x : S40} {cs : List Value} (h : k40.M w base ok x cs) : ∃ v2 v4 v5, cs = [.int .i64 x.f0, .int .i64 x.f1, v2, .int .i64 x.f3, v4, v5] ∧ (Kd.int .u8).R 5 w base ok v2 x.f2 ∧ (Kd.int .u8).R 5 w base ok v4 x.f4 ∧ (Kd.slice 5 (Kd.int .u8)).R 33 w base ok v5 x.f5 := by
  obtain ⟨_, _, rfl, rfl, ⟨_, _, rfl, rfl, ⟨_, _, rfl, ⟨v2, rfl, g2⟩, ⟨_, _, rfl, rfl, ⟨_, _, rfl, ⟨v4, rfl, g4⟩, ⟨v5, rfl, g5⟩⟩⟩⟩⟩⟩ := h
  exact ⟨v2, v4, v5, rfl, g2, g4, g5⟩
theorem k40_mk (w : World) (x : S40) {A2 : Option Addr} {c2 : Nat} (l2 : x.f2.length ≤ c2) (g2 : (Kd.int .u8).C w A2 x.f2.length x.f2) {A4 : Option Addr} {c4 : Nat} (l4 : x.f4.length ≤ c4) (g4 : (Kd.int .u8).C w A4 x.f4.length x.f4) {A5 : Option Addr} {c5 : Nat} (l5 : x.f5.length ≤ c5) (g5 : (Kd.slice 5 (Kd.int .u8)).C w A5 x.f5.length x.f5) : k40.K w x [.int .i64 x.f0, .int .i64 x.f1, .slice A2 x.f2.length c2, .int .i64 x.f3, .slice A4 x.f4.length c4, .slice A5 x.f5.length c5] := ⟨[.int .i64 x.f0], [.int .i64 x.f1, .slice A2 x.f2.length c2, .int .i64 x.f3, .slice A4 x.f4.length c4, .slice A5 x.f5.length c5], rfl, rfl, ⟨[.int .i64 x.f1], [.slice A2 x.f2.length c2, .int .i64 x.f3, .slice A4 x.f4.length c4, .slice A5 x.f5.length c5], rfl, rfl, ⟨[.slice A2 x.f2.length c2], [.int .i64 x.f3, .slice A4 x.f4.length c4, .slice A5 x.f5.length c5], rfl, ⟨A2, c2, rfl, l2, g2⟩, ⟨[.int .i64 x.f3], [.slice A4 x.f4.length c4, .slice A5 x.f5.length c5], rfl, rfl, ⟨[.slice A4 x.f4.length c4], [.slice A5 x.f5.length c5], rfl, ⟨A4, c4, rfl, l4, g4⟩, ⟨A5, c5, rfl, l5, g5⟩⟩⟩⟩⟩⟩
theorem k40_mkM (w : World) (base : Nat) (ok : Nat → Prop) (x : S40) {v2 : Value} (g2 : (Kd.int .u8).R 5 w base ok v2 x.f2) {v4 : Value} (g4 : (Kd.int .u8).R 5 w base ok v4 x.f4) {v5 : Value} (g5 : (Kd.slice 5 (Kd.int .u8)).R 33 w base ok v5 x.f5) : k40.M w base ok x [.int .i64 x.f0, .int .i64 x.f1, v2, .int .i64 x.f3, v4, v5] := ⟨[.int .i64 x.f0], [.int .i64 x.f1, v2, .int .i64 x.f3, v4, v5], rfl, rfl, ⟨[.int .i64 x.f1], [v2, .int .i64 x.f3, v4, v5], rfl, rfl, ⟨[v2], [.int .i64 x.f3, v4, v5], rfl, ⟨v2, rfl, g2⟩, ⟨[.int .i64 x.f3], [v4, v5], rfl, rfl, ⟨[v4], [v5], rfl, ⟨v4, rfl, g4⟩, ⟨v5, rfl, g5⟩⟩⟩⟩⟩⟩
theorem k40_openF {W : World} {ok : Nat → Prop} {x : S40} {cs : List Value} (h : Kd.FK k40 W ok x cs) : ∃ A2 c2 A4 c4 A5 c5, cs = [.int .i64 x.f0, .int .i64 x.f1, .slice A2 x.f2.length c2, .int .i64 x.f3, .slice A4 x.f4.length c4, .slice A5 x.f5.length c5] ∧ x.f2.length ≤ c2 ∧ Kd.F (Kd.int .u8) W ok A2 x.f2.length x.f2 ∧ x.f4.length ≤ c4 ∧ Kd.F (Kd.int .u8) W ok A4 x.f4.length x.f4 ∧ x.f5.length ≤ c5 ∧ Kd.F (Kd.slice 5 (Kd.int .u8)) W ok A5 x.f5.length x.f5 := by
  obtain ⟨A2, c2, A4, c4, A5, c5, rfl, l2, _, l4, _, l5, _⟩ := k40_open (Kd.FK_now h)
  exact ⟨A2, c2, A4, c4, A5, c5, rfl, l2, (fun W' hW => by obtain ⟨A2_, c2_, A4_, c4_, A5_, c5_, he, l2_, g2_, l4_, g4_, l5_, g5_⟩ := k40_open (h W' hW); injection (Option.some.inj (show some (Value.slice A2 x.f2.length c2) = some (Value.slice A2_ x.f2.length c2_) from congrArg (fun l => l[2]?) he)) with ha_ _ _; rw [ha_]; exact g2_), l4, (fun W' hW => by obtain ⟨A2_, c2_, A4_, c4_, A5_, c5_, he, l2_, g2_, l4_, g4_, l5_, g5_⟩ := k40_open (h W' hW); injection (Option.some.inj (show some (Value.slice A4 x.f4.length c4) = some (Value.slice A4_ x.f4.length c4_) from congrArg (fun l => l[4]?) he)) with ha_ _ _; rw [ha_]; exact g4_), l5, (fun W' hW => by obtain ⟨A2_, c2_, A4_, c4_, A5_, c5_, he, l2_, g2_, l4_, g4_, l5_, g5_⟩ := k40_open (h W' hW); injection (Option.some.inj (show some (Value.slice A5 x.f5.length c5) = some (Value.slice A5_ x.f5.length c5_) from congrArg (fun l => l[5]?) he)) with ha_ _ _; rw [ha_]; exact g5_)⟩
theorem k40_mkF (W : World) (ok : Nat → Prop) (x : S40) {A2 : Option Addr} {c2 : Nat} (l2 : x.f2.length ≤ c2) (g2 : Kd.F (Kd.int .u8) W ok A2 x.f2.length x.f2) {A4 : Option Addr} {c4 : Nat} (l4 : x.f4.length ≤ c4) (g4 : Kd.F (Kd.int .u8) W ok A4 x.f4.length x.f4) {A5 : Option Addr} {c5 : Nat} (l5 : x.f5.length ≤ c5) (g5 : Kd.F (Kd.slice 5 (Kd.int .u8)) W ok A5 x.f5.length x.f5) : Kd.FK k40 W ok x [.int .i64 x.f0, .int .i64 x.f1, .slice A2 x.f2.length c2, .int .i64 x.f3, .slice A4 x.f4.length c4, .slice A5 x.f5.length c5] := fun W2 hW => k40_mk W2 x l2 (g2 W2 hW) l4 (g4 W2 hW) l5 (g5 W2 hW)
def rd_T40 (xs : List S40) (i : Int) : S40 := xs.getD i.toNat z40
theorem at_T40 {w : World} {A : Option Addr} {n : Nat} {xs : List S40} (h : Kd.C k40 w A n xs) (i : Int) (h0 : 0 ≤ i) (h1 : i < n) : ∃ ad A2 c2 A4 c4 A5 c5, A = some ad ∧ w.cell? (ad.add (i.toNat * 6)) = some (.int .i64 (rd_T40 xs i).f0) ∧ w.cell? ⟨(ad.add (i.toNat * 6)).block, (ad.add (i.toNat * 6)).off + 1, none⟩ = some (.int .i64 (rd_T40 xs i).f1) ∧ w.cell? ⟨(ad.add (i.toNat * 6)).block, (ad.add (i.toNat * 6)).off + 2, none⟩ = some (.slice A2 (rd_T40 xs i).f2.length c2) ∧ w.cell? ⟨(ad.add (i.toNat * 6)).block, (ad.add (i.toNat * 6)).off + 3, none⟩ = some (.int .i64 (rd_T40 xs i).f3) ∧ w.cell? ⟨(ad.add (i.toNat * 6)).block, (ad.add (i.toNat * 6)).off + 4, none⟩ = some (.slice A4 (rd_T40 xs i).f4.length c4) ∧ w.cell? ⟨(ad.add (i.toNat * 6)).block, (ad.add (i.toNat * 6)).off + 5, none⟩ = some (.slice A5 (rd_T40 xs i).f5.length c5) ∧ (rd_T40 xs i).f2.length ≤ c2 ∧ (Kd.int .u8).C w A2 (rd_T40 xs i).f2.length (rd_T40 xs i).f2 ∧ (rd_T40 xs i).f4.length ≤ c4 ∧ (Kd.int .u8).C w A4 (rd_T40 xs i).f4.length (rd_T40 xs i).f4 ∧ (rd_T40 xs i).f5.length ≤ c5 ∧ (Kd.slice 5 (Kd.int .u8)).C w A5 (rd_T40 xs i).f5.length (rd_T40 xs i).f5 := by
  obtain ⟨ad, c, e, _, hK, hc0⟩ := Kd.C_get h z40 i h0 h1
  have hc : ∀ j u, c[j]? = some u → w.cell? (ad.add (i.toNat * 6 + j)) = some u := hc0
  obtain ⟨A2, c2, A4, c4, A5, c5, rfl, l2, g2, l4, g4, l5, g5⟩ := k40_open hK
  exact ⟨ad, A2, c2, A4, c4, A5, c5, e, hc 0 _ rfl, by rw [← add_field _ _ 1 (by omega)]; exact hc 1 _ rfl, by rw [← add_field _ _ 2 (by omega)]; exact hc 2 _ rfl, by rw [← add_field _ _ 3 (by omega)]; exact hc 3 _ rfl, by rw [← add_field _ _ 4 (by omega)]; exact hc 4 _ rfl, by rw [← add_field _ _ 5 (by omega)]; exact hc 5 _ rfl, l2, g2, l4, g4, l5, g5⟩

def rd_L5 (xs : List (List S40)) (i : Int) : (List S40) := xs.getD i.toNat ([] : List S40)
theorem at_L5 {w : World} {A : Option Addr} {n : Nat} {xs : List (List S40)} (h : Kd.C (Kd.slice 40 k40) w A n xs) (i : Int) (h0 : 0 ≤ i) (h1 : i < n) : ∃ ad A0 c0, A = some ad ∧ w.cell? (ad.add i.toNat) = some (.slice A0 (rd_L5 xs i).length c0) ∧ (rd_L5 xs i).length ≤ c0 ∧ k40.C w A0 (rd_L5 xs i).length (rd_L5 xs i) := by
  obtain ⟨ad, c, e, _, hK, hc0⟩ := Kd.C_get h ([] : List S40) i h0 h1
  have hc : ∀ j u, c[j]? = some u → w.cell? (ad.add (i.toNat * 1 + j)) = some u := hc0
  obtain ⟨A0, c0, rfl, l0, g0⟩ := hK
  exact ⟨ad, A0, c0, e, by have hq := hc 0 _ rfl; rwa [Nat.mul_one, Nat.add_zero] at hq, l0, g0⟩

/-! #### struct type 61 -/
structure S61 where
  f0 : Bool
  f1 : (List Int)
  f2 : (List Int)
  f3 : Int
  f4 : Int
  f5 : (List Int)
  f6 : Int
  f7 : Int
  f8 : Int
  f9 : (List Int)
def z61 : S61 := ⟨false, ([] : List Int), ([] : List Int), (0 : Int), (0 : Int), ([] : List Int), (0 : Int), (0 : Int), (0 : Int), ([] : List Int)⟩
def k61 : Kd S61 := Kd.iso (Kd.pair Kd.bool (Kd.pair (Kd.slice 5 (Kd.int .u8)) (Kd.pair (Kd.slice 5 (Kd.int .u8)) (Kd.pair (Kd.int .i64) (Kd.pair (Kd.int .i64) (Kd.pair (Kd.slice 5 (Kd.int .u8)) (Kd.pair (Kd.int .i64) (Kd.pair (Kd.int .i64) (Kd.pair (Kd.int .i64) (Kd.slice 5 (Kd.int .u8))))))))))) (fun x : S61 => (x.f0, x.f1, x.f2, x.f3, x.f4, x.f5, x.f6, x.f7, x.f8, x.f9))
theorem k61_heap : Kd.Heap k61 := Kd.heap_iso _ (Kd.heap_pair Kd.heap_bool (Kd.heap_pair (Kd.heap_slice 5 (Kd.heap_int .u8)) (Kd.heap_pair (Kd.heap_slice 5 (Kd.heap_int .u8)) (Kd.heap_pair (Kd.heap_int .i64) (Kd.heap_pair (Kd.heap_int .i64) (Kd.heap_pair (Kd.heap_slice 5 (Kd.heap_int .u8)) (Kd.heap_pair (Kd.heap_int .i64) (Kd.heap_pair (Kd.heap_int .i64) (Kd.heap_pair (Kd.heap_int .i64) (Kd.heap_slice 5 (Kd.heap_int .u8)))))))))))
theorem k61_open {w : World} {x : S61} {cs : List Value} (h : k61.K w x cs) : ∃ A1 c1 A2 c2 A5 c5 A9 c9, cs = [.bool x.f0, .slice A1 x.f1.length c1, .slice A2 x.f2.length c2, .int .i64 x.f3, .int .i64 x.f4, .slice A5 x.f5.length c5, .int .i64 x.f6, .int .i64 x.f7, .int .i64 x.f8, .slice A9 x.f9.length c9] ∧ x.f1.length ≤ c1 ∧ (Kd.int .u8).C w A1 x.f1.length x.f1 ∧ x.f2.length ≤ c2 ∧ (Kd.int .u8).C w A2 x.f2.length x.f2 ∧ x.f5.length ≤ c5 ∧ (Kd.int .u8).C w A5 x.f5.length x.f5 ∧ x.f9.length ≤ c9 ∧ (Kd.int .u8).C w A9 x.f9.length x.f9 := by
  obtain ⟨_, _, rfl, rfl, ⟨_, _, rfl, ⟨A1, c1, rfl, l1, g1⟩, ⟨_, _, rfl, ⟨A2, c2, rfl, l2, g2⟩, ⟨_, _, rfl, rfl, ⟨_, _, rfl, rfl, ⟨_, _, rfl, ⟨A5, c5, rfl, l5, g5⟩, ⟨_, _, rfl, rfl, ⟨_, _, rfl, rfl, ⟨_, _, rfl, rfl, ⟨A9, c9, rfl, l9, g9⟩⟩⟩⟩⟩⟩⟩⟩⟩⟩ := h
  exact ⟨A1, c1, A2, c2, A5, c5, A9, c9, rfl, l1, g1, l2, g2, l5, g5, l9, g9⟩
theorem k61_openM {w : World} {base : Nat} {ok : Nat → Prop} {x : S61} {cs : List Value} (h : k61.M w base ok x cs) : ∃ v1 v2 v5 v9, cs = [.bool x.f0, v1, v2, .int .i64 x.f3, .int .i64 x.f4, v5, .int .i64 x.f6, .int .i64 x.f7, .int .i64 x.f8, v9] ∧ (Kd.int .u8).R 5 w base ok v1 x.f1 ∧ (Kd.int .u8).R 5 w base ok v2 x.f2 ∧ (Kd.int .u8).R 5 w base ok v5 x.f5 ∧ (Kd.int .u8).R 5 w base ok v9 x.f9 := by
  obtain ⟨_, _, rfl, rfl, ⟨_, _, rfl, ⟨v1, rfl, g1⟩, ⟨_, _, rfl, ⟨v2, rfl, g2⟩, ⟨_, _, rfl, rfl, ⟨_, _, rfl, rfl, ⟨_, _, rfl, ⟨v5, rfl, g5⟩, ⟨_, _, rfl, rfl, ⟨_, _, rfl, rfl, ⟨_, _, rfl, rfl, ⟨v9, rfl, g9⟩⟩⟩⟩⟩⟩⟩⟩⟩⟩ := h
  exact ⟨v1, v2, v5, v9, rfl, g1, g2, g5, g9⟩
theorem k61_mk (w : World) (x : S61) {A1 : Option Addr} {c1 : Nat} (l1 : x.f1.length ≤ c1) (g1 : (Kd.int .u8).C w A1 x.f1.length x.f1) {A2 : Option Addr} {c2 : Nat} (l2 : x.f2.length ≤ c2) (g2 : (Kd.int .u8).C w A2 x.f2.length x.f2) {A5 : Option Addr} {c5 : Nat} (l5 : x.f5.length ≤ c5) (g5 : (Kd.int .u8).C w A5 x.f5.length x.f5) {A9 : Option Addr} {c9 : Nat} (l9 : x.f9.length ≤ c9) (g9 : (Kd.int .u8).C w A9 x.f9.length x.f9) : k61.K w x [.bool x.f0, .slice A1 x.f1.length c1, .slice A2 x.f2.length c2, .int .i64 x.f3, .int .i64 x.f4, .slice A5 x.f5.length c5, .int .i64 x.f6, .int .i64 x.f7, .int .i64 x.f8, .slice A9 x.f9.length c9] := ⟨[.bool x.f0], [.slice A1 x.f1.length c1, .slice A2 x.f2.length c2, .int .i64 x.f3, .int .i64 x.f4, .slice A5 x.f5.length c5, .int .i64 x.f6, .int .i64 x.f7, .int .i64 x.f8, .slice A9 x.f9.length c9], rfl, rfl, ⟨[.slice A1 x.f1.length c1], [.slice A2 x.f2.length c2, .int .i64 x.f3, .int .i64 x.f4, .slice A5 x.f5.length c5, .int .i64 x.f6, .int .i64 x.f7, .int .i64 x.f8, .slice A9 x.f9.length c9], rfl, ⟨A1, c1, rfl, l1, g1⟩, ⟨[.slice A2 x.f2.length c2], [.int .i64 x.f3, .int .i64 x.f4, .slice A5 x.f5.length c5, .int .i64 x.f6, .int .i64 x.f7, .int .i64 x.f8, .slice A9 x.f9.length c9], rfl, ⟨A2, c2, rfl, l2, g2⟩, ⟨[.int .i64 x.f3], [.int .i64 x.f4, .slice A5 x.f5.length c5, .int .i64 x.f6, .int .i64 x.f7, .int .i64 x.f8, .slice A9 x.f9.length c9], rfl, rfl, ⟨[.int .i64 x.f4], [.slice A5 x.f5.length c5, .int .i64 x.f6, .int .i64 x.f7, .int .i64 x.f8, .slice A9 x.f9.length c9], rfl, rfl, ⟨[.slice A5 x.f5.length c5], [.int .i64 x.f6, .int .i64 x.f7, .int .i64 x.f8, .slice A9 x.f9.length c9], rfl, ⟨A5, c5, rfl, l5, g5⟩, ⟨[.int .i64 x.f6], [.int .i64 x.f7, .int .i64 x.f8, .slice A9 x.f9.length c9], rfl, rfl, ⟨[.int .i64 x.f7], [.int .i64 x.f8, .slice A9 x.f9.length c9], rfl, rfl, ⟨[.int .i64 x.f8], [.slice A9 x.f9.length c9], rfl, rfl, ⟨A9, c9, rfl, l9, g9⟩⟩⟩⟩⟩⟩⟩⟩⟩⟩
theorem k61_mkM (w : World) (base : Nat) (ok : Nat → Prop) (x : S61) {v1 : Value} (g1 : (Kd.int .u8).R 5 w base ok v1 x.f1) {v2 : Value} (g2 : (Kd.int .u8).R 5 w base ok v2 x.f2) {v5 : Value} (g5 : (Kd.int .u8).R 5 w base ok v5 x.f5) {v9 : Value} (g9 : (Kd.int .u8).R 5 w base ok v9 x.f9) : k61.M w base ok x [.bool x.f0, v1, v2, .int .i64 x.f3, .int .i64 x.f4, v5, .int .i64 x.f6, .int .i64 x.f7, .int .i64 x.f8, v9] := ⟨[.bool x.f0], [v1, v2, .int .i64 x.f3, .int .i64 x.f4, v5, .int .i64 x.f6, .int .i64 x.f7, .int .i64 x.f8, v9], rfl, rfl, ⟨[v1], [v2, .int .i64 x.f3, .int .i64 x.f4, v5, .int .i64 x.f6, .int .i64 x.f7, .int .i64 x.f8, v9], rfl, ⟨v1, rfl, g1⟩, ⟨[v2], [.int .i64 x.f3, .int .i64 x.f4, v5, .int .i64 x.f6, .int .i64 x.f7, .int .i64 x.f8, v9], rfl, ⟨v2, rfl, g2⟩, ⟨[.int .i64 x.f3], [.int .i64 x.f4, v5, .int .i64 x.f6, .int .i64 x.f7, .int .i64 x.f8, v9], rfl, rfl, ⟨[.int .i64 x.f4], [v5, .int .i64 x.f6, .int .i64 x.f7, .int .i64 x.f8, v9], rfl, rfl, ⟨[v5], [.int .i64 x.f6, .int .i64 x.f7, .int .i64 x.f8, v9], rfl, ⟨v5, rfl, g5⟩, ⟨[.int .i64 x.f6], [.int .i64 x.f7, .int .i64 x.f8, v9], rfl, rfl, ⟨[.int .i64 x.f7], [.int .i64 x.f8, v9], rfl, rfl, ⟨[.int .i64 x.f8], [v9], rfl, rfl, ⟨v9, rfl, g9⟩⟩⟩⟩⟩⟩⟩⟩⟩⟩
theorem k61_openF {W : World} {ok : Nat → Prop} {x : S61} {cs : List Value} (h : Kd.FK k61 W ok x cs) : ∃ A1 c1 A2 c2 A5 c5 A9 c9, cs = [.bool x.f0, .slice A1 x.f1.length c1, .slice A2 x.f2.length c2, .int .i64 x.f3, .int .i64 x.f4, .slice A5 x.f5.length c5, .int .i64 x.f6, .int .i64 x.f7, .int .i64 x.f8, .slice A9 x.f9.length c9] ∧ x.f1.length ≤ c1 ∧ Kd.F (Kd.int .u8) W ok A1 x.f1.length x.f1 ∧ x.f2.length ≤ c2 ∧ Kd.F (Kd.int .u8) W ok A2 x.f2.length x.f2 ∧ x.f5.length ≤ c5 ∧ Kd.F (Kd.int .u8) W ok A5 x.f5.length x.f5 ∧ x.f9.length ≤ c9 ∧ Kd.F (Kd.int .u8) W ok A9 x.f9.length x.f9 := by
  obtain ⟨A1, c1, A2, c2, A5, c5, A9, c9, rfl, l1, _, l2, _, l5, _, l9, _⟩ := k61_open (Kd.FK_now h)
  exact ⟨A1, c1, A2, c2, A5, c5, A9, c9, rfl, l1, (fun W' hW => by obtain ⟨A1_, c1_, A2_, c2_, A5_, c5_, A9_, c9_, he, l1_, g1_, l2_, g2_, l5_, g5_, l9_, g9_⟩ := k61_open (h W' hW); injection (Option.some.inj (show some (Value.slice A1 x.f1.length c1) = some (Value.slice A1_ x.f1.length c1_) from congrArg (fun l => l[1]?) he)) with ha_ _ _; rw [ha_]; exact g1_), l2, (fun W' hW => by obtain ⟨A1_, c1_, A2_, c2_, A5_, c5_, A9_, c9_, he, l1_, g1_, l2_, g2_, l5_, g5_, l9_, g9_⟩ := k61_open (h W' hW); injection (Option.some.inj (show some (Value.slice A2 x.f2.length c2) = some (Value.slice A2_ x.f2.length c2_) from congrArg (fun l => l[2]?) he)) with ha_ _ _; rw [ha_]; exact g2_), l5, (fun W' hW => by obtain ⟨A1_, c1_, A2_, c2_, A5_, c5_, A9_, c9_, he, l1_, g1_, l2_, g2_, l5_, g5_, l9_, g9_⟩ := k61_open (h W' hW); injection (Option.some.inj (show some (Value.slice A5 x.f5.length c5) = some (Value.slice A5_ x.f5.length c5_) from congrArg (fun l => l[5]?) he)) with ha_ _ _; rw [ha_]; exact g5_), l9, (fun W' hW => by obtain ⟨A1_, c1_, A2_, c2_, A5_, c5_, A9_, c9_, he, l1_, g1_, l2_, g2_, l5_, g5_, l9_, g9_⟩ := k61_open (h W' hW); injection (Option.some.inj (show some (Value.slice A9 x.f9.length c9) = some (Value.slice A9_ x.f9.length c9_) from congrArg (fun l => l[9]?) he)) with ha_ _ _; rw [ha_]; exact g9_)⟩
theorem k61_mkF (W : World) (ok : Nat → Prop) (x : S61) {A1 : Option Addr} {c1 : Nat} (l1 : x.f1.length ≤ c1) (g1 : Kd.F (Kd.int .u8) W ok A1 x.f1.length x.f1) {A2 : Option Addr} {c2 : Nat} (l2 : x.f2.length ≤ c2) (g2 : Kd.F (Kd.int .u8) W ok A2 x.f2.length x.f2) {A5 : Option Addr} {c5 : Nat} (l5 : x.f5.length ≤ c5) (g5 : Kd.F (Kd.int .u8) W ok A5 x.f5.length x.f5) {A9 : Option Addr} {c9 : Nat} (l9 : x.f9.length ≤ c9) (g9 : Kd.F (Kd.int .u8) W ok A9 x.f9.length x.f9) : Kd.FK k61 W ok x [.bool x.f0, .slice A1 x.f1.length c1, .slice A2 x.f2.length c2, .int .i64 x.f3, .int .i64 x.f4, .slice A5 x.f5.length c5, .int .i64 x.f6, .int .i64 x.f7, .int .i64 x.f8, .slice A9 x.f9.length c9] := fun W2 hW => k61_mk W2 x l1 (g1 W2 hW) l2 (g2 W2 hW) l5 (g5 W2 hW) l9 (g9 W2 hW)
def rd_T61 (xs : List S61) (i : Int) : S61 := xs.getD i.toNat z61
theorem at_T61 {w : World} {A : Option Addr} {n : Nat} {xs : List S61} (h : Kd.C k61 w A n xs) (i : Int) (h0 : 0 ≤ i) (h1 : i < n) : ∃ ad A1 c1 A2 c2 A5 c5 A9 c9, A = some ad ∧ w.cell? (ad.add (i.toNat * 10)) = some (.bool (rd_T61 xs i).f0) ∧ w.cell? ⟨(ad.add (i.toNat * 10)).block, (ad.add (i.toNat * 10)).off + 1, none⟩ = some (.slice A1 (rd_T61 xs i).f1.length c1) ∧ w.cell? ⟨(ad.add (i.toNat * 10)).block, (ad.add (i.toNat * 10)).off + 2, none⟩ = some (.slice A2 (rd_T61 xs i).f2.length c2) ∧ w.cell? ⟨(ad.add (i.toNat * 10)).block, (ad.add (i.toNat * 10)).off + 3, none⟩ = some (.int .i64 (rd_T61 xs i).f3) ∧ w.cell? ⟨(ad.add (i.toNat * 10)).block, (ad.add (i.toNat * 10)).off + 4, none⟩ = some (.int .i64 (rd_T61 xs i).f4) ∧ w.cell? ⟨(ad.add (i.toNat * 10)).block, (ad.add (i.toNat * 10)).off + 5, none⟩ = some (.slice A5 (rd_T61 xs i).f5.length c5) ∧ w.cell? ⟨(ad.add (i.toNat * 10)).block, (ad.add (i.toNat * 10)).off + 6, none⟩ = some (.int .i64 (rd_T61 xs i).f6) ∧ w.cell? ⟨(ad.add (i.toNat * 10)).block, (ad.add (i.toNat * 10)).off + 7, none⟩ = some (.int .i64 (rd_T61 xs i).f7) ∧ w.cell? ⟨(ad.add (i.toNat * 10)).block, (ad.add (i.toNat * 10)).off + 8, none⟩ = some (.int .i64 (rd_T61 xs i).f8) ∧ w.cell? ⟨(ad.add (i.toNat * 10)).block, (ad.add (i.toNat * 10)).off + 9, none⟩ = some (.slice A9 (rd_T61 xs i).f9.length c9) ∧ (rd_T61 xs i).f1.length ≤ c1 ∧ (Kd.int .u8).C w A1 (rd_T61 xs i).f1.length (rd_T61 xs i).f1 ∧ (rd_T61 xs i).f2.length ≤ c2 ∧ (Kd.int .u8).C w A2 (rd_T61 xs i).f2.length (rd_T61 xs i).f2 ∧ (rd_T61 xs i).f5.length ≤ c5 ∧ (Kd.int .u8).C w A5 (rd_T61 xs i).f5.length (rd_T61 xs i).f5 ∧ (rd_T61 xs i).f9.length ≤ c9 ∧ (Kd.int .u8).C w A9 (rd_T61 xs i).f9.length (rd_T61 xs i).f9 := by
  obtain ⟨ad, c, e, _, hK, hc0⟩ := Kd.C_get h z61 i h0 h1
  have hc : ∀ j u, c[j]? = some u → w.cell? (ad.add (i.toNat * 10 + j)) = some u := hc0
  obtain ⟨A1, c1, A2, c2, A5, c5, A9, c9, rfl, l1, g1, l2, g2, l5, g5, l9, g9⟩ := k61_open hK
  exact ⟨ad, A1, c1, A2, c2, A5, c5, A9, c9, e, hc 0 _ rfl, by rw [← add_field _ _ 1 (by omega)]; exact hc 1 _ rfl, by rw [← add_field _ _ 2 (by omega)]; exact hc 2 _ rfl, by rw [← add_field _ _ 3 (by omega)]; exact hc 3 _ rfl, by rw [← add_field _ _ 4 (by omega)]; exact hc 4 _ rfl, by rw [← add_field _ _ 5 (by omega)]; exact hc 5 _ rfl, by rw [← add_field _ _ 6 (by omega)]; exact hc 6 _ rfl, by rw [← add_field _ _ 7 (by omega)]; exact hc 7 _ rfl, by rw [← add_field _ _ 8 (by omega)]; exact hc 8 _ rfl, by rw [← add_field _ _ 9 (by omega)]; exact hc 9 _ rfl, l1, g1, l2, g2, l5, g5, l9, g9⟩

end Go.Proofs.YtbedgjjiinhpkaaDoor.P

-- Quiet
set_option linter.unusedVariables false
set_option linter.unusedSimpArgs false
namespace Go.Proofs.YtbedgjjiinhpkaaDoor.P
open Go.RowKit Go.Proofs.YtbedgjjiinhpkaaDoorW.PrintWords Go.Proofs.YtbedgjjiinhpkaaDoorW.PrintLast Go.Proofs.YtbedgjjiinhpkaaDoorW.PrintMore

theorem still0 {P : Program} {f : FuncId} {args : Array Value} {w : World} {v : Value} (h : Calls P f args w fun e w' => e = .returned v ∧ w = w') :
    Calls P f args w fun e w'' => e = .returned v ∧ ∃ m, w'' = w.drewN m := h.mono fun _ _ ⟨he, hd⟩ => ⟨he, 0, by rw [← hd]; rfl⟩
theorem still1 {P : Program} {f : FuncId} {args : Array Value} {w : World} {n : Nat} {v : Value} (h : Calls P f args (w.drewN n) fun e w' => e = .returned v ∧ w.drewN n = w') :
    Calls P f args (w.drewN n) fun e w'' => e = .returned v ∧ ∃ m, w'' = w.drewN m := h.mono fun _ _ ⟨he, hd⟩ => ⟨he, n, by rw [← hd]⟩
theorem still2 {P : Program} {f : FuncId} {args : Array Value} {w : World} {q n : Nat} {v : Value} (h : Calls P f args (w.drewN (q + n)) fun e w' => e = .returned v ∧ w.drewN (q + n) = w') :
    Calls P f args (w.drewN (q + n)) fun e w'' => e = .returned v ∧ ∃ m, w'' = w.drewN (q + m) := h.mono fun _ _ ⟨he, hd⟩ => ⟨he, n, by rw [← hd]⟩
theorem drawn0_quiet {P : Program} {f : FuncId} {args : Array Value} {w : World} {v : Value} (h : Calls P f args w fun e w' => e = .returned v ∧ Drawn0 w w') :
    Calls P f args w fun e w'' => e = .returned v ∧ ∃ m, w'' = w.drewN m := h.mono fun _ _ ⟨he, hd⟩ => ⟨he, hd.out⟩
theorem drawn1_quiet {P : Program} {f : FuncId} {args : Array Value} {w : World} {n : Nat} {v : Value} (h : Calls P f args (w.drewN n) fun e w' => e = .returned v ∧ Drawn0 (w.drewN n) w') :
    Calls P f args (w.drewN n) fun e w'' => e = .returned v ∧ ∃ m, w'' = w.drewN m := h.mono fun _ _ ⟨he, hd⟩ => by
    obtain ⟨m, hm⟩ := hd.out
    exact ⟨he, n + m, by rw [hm, World.drewN_drewN]⟩
theorem drawn2_quiet {P : Program} {f : FuncId} {args : Array Value} {w : World} {q n : Nat} {v : Value} (h : Calls P f args (w.drewN (q + n)) fun e w' => e = .returned v ∧ Drawn0 (w.drewN (q + n)) w') :
    Calls P f args (w.drewN (q + n)) fun e w'' => e = .returned v ∧ ∃ m, w'' = w.drewN (q + m) := h.mono fun _ _ ⟨he, hd⟩ => by
    obtain ⟨m, hm⟩ := hd.out
    exact ⟨he, n + m, by rw [hm, World.drewN_drewN, Nat.add_assoc]⟩

end Go.Proofs.YtbedgjjiinhpkaaDoor.P

-- ArenaA
set_option linter.unusedVariables false
set_option linter.unusedSimpArgs false
namespace Go.Proofs.YtbedgjjiinhpkaaDoor.P
open Go.RowKit Go.Proofs.YtbedgjjiinhpkaaDoorW.PrintWords Go.Proofs.YtbedgjjiinhpkaaDoorW.PrintLast Go.Proofs.YtbedgjjiinhpkaaDoorW.PrintMore

/-- A node, a place, in plain words. -/
abbrev Nd := S61
abbrev kNd : Kd Nd := k61
def kCell : Kd (Bool × Nd) := Kd.pair Kd.bool kNd
abbrev Places := List (Bool × Nd)

/-- An arena's block. -/
def ABlk (w : World) (p : Nat) (size room : Int) (vc vf : Value) : Prop := w.heap[p]? = some (.cells #[.int .i64 size, .int .i64 room, vc, vf] 54 (0, 0))
theorem ABlk.below {w w1 : World} {p : Nat} {size room : Int} {vc vf : Value} (h : ABlk w p size room vc vf) (hb : Below w.heap.size w w1) : ABlk w1 p size room vc vf := blk_below h hb
theorem ABlk.lt {w : World} {p : Nat} {size room : Int} {vc vf : Value} (h : ABlk w p size room vc vf) : p < w.heap.size := blk_lt h
theorem ABlk.cells {w : World} {p : Nat} {size room : Int} {vc vf : Value} (h : ABlk w p size room vc vf) : w.cell? ⟨p, 0, none⟩ = some (.int .i64 size) ∧ w.cell? ⟨p, 1, none⟩ = some (.int .i64 room) ∧ w.cell? ⟨p, 2, none⟩ = some vc ∧ w.cell? ⟨p, 3, none⟩ = some vf :=
  ⟨blk_cell h 0, blk_cell h 1, blk_cell h 2, blk_cell h 3⟩

theorem none_calls {w : World} {p : Nat} {size room : Int} {vc vf : Value} (h : ABlk w p size room vc vf) (hs : size ≠ 0) :
    Calls Tryd.prog 95 #[.pointer (some ⟨p, 0, none⟩)] w fun e w' => e = .returned (.bool false) ∧ w = w' := by
  obtain ⟨c0, c1, c2, c3⟩ := h.cells
  have hs0 : (size == 0) = false := by simpa using hs
  go_enter Tryd.func95, Tryd.ntmps95
  go_wp2_with fail
  go_ret
  exact ⟨rfl, rfl⟩

theorem len_calls (A : Option Addr) (n c : Nat) (w : World) :
    Calls Tryd.prog 101 #[.slice A n c] w fun e w' => e = .returned (.int .i64 (n : Int)) ∧ w = w' := by
  go_enter Tryd.func101, Tryd.ntmps101
  go_wp2_with fail
  go_ret
  exact ⟨rfl, rfl⟩

theorem used_calls {w : World} {p : Nat} {size room : Int} {A A' : Option Addr} {n n' c c' : Nat} (h : ABlk w p size room (.slice A n c) (.slice A' n' c')) (hs : size ≠ 0) (hn : (n : Int) ≤ 9223372036854775807) (hn' : (n' : Int) ≤ 9223372036854775807) :
    Calls Tryd.prog 44 #[.pointer (some ⟨p, 0, none⟩)] w fun e w' => e = .returned (.int .i64 ((n : Int) - (n' : Int))) ∧ Drawn0 w w' := by
  have HBk := Aside0.mk h
  have HS := Aside0.mk hs
  clear h hs
  go_enter Tryd.func44, Tryd.ntmps44
  go_wp2_with fail
  refine (none_calls HBk.out HS.out).mono ?_
  rintro e w' ⟨rfl, rfl⟩
  obtain ⟨c0, c1, c2, c3⟩ := HBk.out.cells
  have ws : IntKind.i64.wrap ((n : Int) - (n' : Int)) = (n : Int) - (n' : Int) := IntWalk.i64_in _ ⟨by omega, by omega⟩
  go_wp2_with fail
  go_quiet ((go_at_call 101; (first | with_reducible exact still0 (len_calls A' n' c' _) | with_reducible exact still2 (len_calls A' n' c' _) | with_reducible exact still1 (len_calls A' n' c' _))))
  go_wp2_with fail
  go_ret
  exact ⟨rfl, ⟨_, rfl⟩⟩

theorem room_calls {w : World} {p : Nat} {size room : Int} {A A' : Option Addr} {n n' c c' : Nat} (h : ABlk w p size room (.slice A n c) (.slice A' n' c')) (hs : size ≠ 0) (hn : (n : Int) ≤ 4294967296) (hn' : (n' : Int) ≤ 4294967296) (hr0 : 0 ≤ room) (hr1 : room ≤ 4294967296) :
    Calls Tryd.prog 45 #[.pointer (some ⟨p, 0, none⟩)] w fun e w' => e = .returned (.int .i64 (room - ((n : Int) - (n' : Int)))) ∧ Drawn0 w w' := by
  have HBk := Aside0.mk h
  have HS := Aside0.mk hs
  obtain ⟨u, hu⟩ : ∃ u, u = (n : Int) - (n' : Int) := ⟨_, rfl⟩
  rw [← hu]
  clear h hs
  go_enter Tryd.func45, Tryd.ntmps45
  go_wp2_with fail
  refine (none_calls HBk.out HS.out).mono ?_
  rintro e w' ⟨rfl, rfl⟩
  obtain ⟨c0, c1, c2, c3⟩ := HBk.out.cells
  have ws : IntKind.i64.wrap (room - u) = room - u := IntWalk.i64_in _ ⟨by omega, by omega⟩
  have HU := Aside0.mk hu
  have HUC : ∀ m, Calls Tryd.prog 44 #[.pointer (some ⟨p, 0, none⟩)] (w.drewN m) fun e w' => e = .returned (.int .i64 u) ∧ Drawn0 (w.drewN m) w' := fun m => by
    rw [HU.out]
    exact used_calls (w := w.drewN m) HBk.out HS.out (by omega) (by omega)
  have HUC := Aside0.mk HUC
  clear hu
  go_wp2_with fail
  go_quiet ((go_at_call 44; (first | with_reducible exact drawn2_quiet (HUC.out _) | with_reducible exact drawn1_quiet (HUC.out _) | exact drawn0_quiet (HUC.out 0))))
  go_wp2_with fail
  go_ret
  exact ⟨rfl, ⟨_, rfl⟩⟩

theorem size_calls {w : World} {p : Nat} {size room : Int} {vc vf : Value} (h : ABlk w p size room vc vf) (hs : size ≠ 0) :
    Calls Tryd.prog 46 #[.pointer (some ⟨p, 0, none⟩)] w fun e w' => e = .returned (.int .i64 size) ∧ w = w' := by
  have HBk := Aside0.mk h
  have HS := Aside0.mk hs
  clear h hs
  go_enter Tryd.func46, Tryd.ntmps46
  go_wp2_with fail
  refine (none_calls HBk.out HS.out).mono ?_
  rintro e w' ⟨rfl, rfl⟩
  obtain ⟨c0, c1, c2, c3⟩ := HBk.out.cells
  go_wp2_with fail
  go_ret
  exact ⟨rfl, rfl⟩

/-- A place's cells. -/
theorem place_open {w : World} {g n : Nat} {cs : Places} (h : Kd.C kCell w (some ⟨g, 0, none⟩) n cs) (k : Nat) (hk : k < n) :
    ∃ c, c.length = 10 ∧ kNd.K w (cs.getD k (false, z61)).2 c ∧ w.cell? ⟨g, k * 11, none⟩ = some (.bool (cs.getD k (false, z61)).1) ∧ ∀ j u, c[j]? = some u → w.cell? ⟨g, k * 11 + (1 + j), none⟩ = some u := by
  obtain ⟨ad, c, e, hl, hK, hc⟩ := Kd.C_get h (false, z61) (k : Int) (by omega) (by omega)
  rw [Int.toNat_natCast] at hK hc
  obtain rfl : (⟨g, 0, none⟩ : Addr) = ad := Option.some.inj e
  obtain ⟨c0, c1, rfl, h0, h1⟩ := hK
  obtain rfl : c0 = [.bool (cs.getD k (false, z61)).1] := h0
  have hc2 : ∀ j u, ([Value.bool (cs.getD k (false, z61)).1] ++ c1)[j]? = some u → w.cell? ⟨g, k * 11 + j, none⟩ = some u := fun j u hj => by
    have := hc j u hj
    rwa [add_plain] at this
  refine ⟨c1, kNd.K_len h1, h1, hc2 0 _ rfl, fun j u hj => hc2 (1 + j) u ?_⟩
  rw [Nat.add_comm]
  simpa using hj

theorem at_calls {w : World} {p : Nat} {size room : Int} {g n c : Nat} {vf : Value} {cs : Places} (h : ABlk w p size room (.slice (some ⟨g, 0, none⟩) n c) vf) (hs : size ≠ 0) (hC : Kd.C kCell w (some ⟨g, 0, none⟩) n cs) (k : Nat) (hk : k < n) (hu : (cs.getD k (false, z61)).1 = true) :
    Calls Tryd.prog 98 #[.pointer (some ⟨p, 0, none⟩), .int .i64 (k : Int)] w fun e w' => e = .returned (.pointer (some ⟨g, k * 11 + 1, none⟩)) ∧ w = w' := by
  obtain ⟨cc, _, _, hc, _⟩ := place_open hC k hk
  rw [hu] at hc
  have hn := hC.2.1
  have HBk := Aside0.mk h
  have HS := Aside0.mk hs
  have hk2 : decide (n ≤ k) = false := decide_eq_false (by omega)
  have hk3 : (k : Int) < (n : Int) := by omega
  have hk4 : decide ((k : Int) < 0) = false := decide_eq_false (by omega)
  have hk5 : 0 ≤ (k : Int) := by omega
  clear h hs hC hu
  go_enter Tryd.func98, Tryd.ntmps98
  go_wp2_with fail
  refine (none_calls HBk.out HS.out).mono ?_
  rintro e w' ⟨rfl, rfl⟩
  obtain ⟨c0, c1, c2, c3⟩ := HBk.out.cells
  go_wp2_with fail
  go_ret
  exact ⟨rfl, rfl⟩

/-- Before the first place. -/
theorem at_neg {w : World} {p : Nat} {size room : Int} {vc vf : Value} (h : ABlk w p size room vc vf) (hs : size ≠ 0) (i : Int) (hi : i < 0) :
    Calls Tryd.prog 98 #[.pointer (some ⟨p, 0, none⟩), .int .i64 i] w fun e w' => e = .returned (.pointer none) ∧ w = w' := by
  have HBk := Aside0.mk h
  have HS := Aside0.mk hs
  have hk4 : decide (i < 0) = true := decide_eq_true hi
  clear h hs hi
  go_enter Tryd.func98, Tryd.ntmps98
  go_wp2_with fail
  refine (none_calls HBk.out HS.out).mono ?_
  rintro e w' ⟨rfl, rfl⟩
  obtain ⟨c0, c1, c2, c3⟩ := HBk.out.cells
  go_wp2_with fail
  go_ret
  exact ⟨rfl, rfl⟩
/-- Behind the last one. -/
theorem at_past {w : World} {p : Nat} {size room : Int} {A : Option Addr} {n c : Nat} {vf : Value} (h : ABlk w p size room (.slice A n c) vf) (hs : size ≠ 0) (i : Int) (h0 : 0 ≤ i) (hi : (n : Int) ≤ i) :
    Calls Tryd.prog 98 #[.pointer (some ⟨p, 0, none⟩), .int .i64 i] w fun e w' => e = .returned (.pointer none) ∧ w = w' := by
  have HBk := Aside0.mk h
  have HS := Aside0.mk hs
  have hk4 : decide (i < 0) = false := decide_eq_false (by omega)
  have hk5 : decide ((n : Int) ≤ i) = true := decide_eq_true hi
  clear h hs
  go_enter Tryd.func98, Tryd.ntmps98
  go_wp2_with fail
  refine (none_calls HBk.out HS.out).mono ?_
  rintro e w' ⟨rfl, rfl⟩
  obtain ⟨c0, c1, c2, c3⟩ := HBk.out.cells
  go_wp2_with fail
  go_ret
  exact ⟨rfl, rfl⟩
/-- At a place that is free. -/
theorem at_free {w : World} {p : Nat} {size room : Int} {g n c : Nat} {vf : Value} {cs : Places} (h : ABlk w p size room (.slice (some ⟨g, 0, none⟩) n c) vf) (hs : size ≠ 0) (hC : Kd.C kCell w (some ⟨g, 0, none⟩) n cs) (k : Nat) (hk : k < n) (hu : (cs.getD k (false, z61)).1 = false) :
    Calls Tryd.prog 98 #[.pointer (some ⟨p, 0, none⟩), .int .i64 (k : Int)] w fun e w' => e = .returned (.pointer none) ∧ w = w' := by
  obtain ⟨cc, _, _, hc, _⟩ := place_open hC k hk
  rw [hu] at hc
  have hn := hC.2.1
  have HBk := Aside0.mk h
  have HS := Aside0.mk hs
  have hk2 : decide (n ≤ k) = false := decide_eq_false (by omega)
  have hk3 : (k : Int) < (n : Int) := by omega
  have hk4 : decide ((k : Int) < 0) = false := decide_eq_false (by omega)
  have hk5 : 0 ≤ (k : Int) := by omega
  clear h hs hC hu
  go_enter Tryd.func98, Tryd.ntmps98
  go_wp2_with fail
  refine (none_calls HBk.out HS.out).mono ?_
  rintro e w' ⟨rfl, rfl⟩
  obtain ⟨c0, c1, c2, c3⟩ := HBk.out.cells
  go_wp2_with fail
  go_ret
  exact ⟨rfl, rfl⟩

end Go.Proofs.YtbedgjjiinhpkaaDoor.P

-- TextC
set_option linter.unusedVariables false
set_option linter.unusedSimpArgs false
namespace Go.Proofs.YtbedgjjiinhpkaaDoor.P
open Go.RowKit Go.Proofs.YtbedgjjiinhpkaaDoorW.PrintWords Go.Proofs.YtbedgjjiinhpkaaDoorW.PrintLast Go.Proofs.YtbedgjjiinhpkaaDoorW.PrintMore

def slices_Clone_byte_byte.f (l0 : List Int) : Option (List Int) := if l0.length < 140737488355328 then some l0 else none

set_option maxHeartbeats 1000000 in
set_option maxRecDepth 100000 in
theorem slices_Clone_byte_byte.calls (A0 : Option Addr) (c0 : Nat) (l0 : List Int) (r : List Int) (w : World) (hr0 : Kd.C (Kd.int .u8) w A0 l0.length l0) (hc0 : l0.length ≤ c0) (h : slices_Clone_byte_byte.f l0 = some r) :
    Calls Tryd.prog 96 #[.slice A0 l0.length c0] w fun e w' => ∃ v0_ : Value, e = .returned (v0_) ∧ Kd.R (Kd.int .u8) 5 w' w.heap.size (fun _ => True) v0_ r ∧ Below w.heap.size w w' := by
  unfold slices_Clone_byte_byte.f at h
  split at h
  case isFalse => cases h
  case isTrue hb =>
    obtain rfl := Option.some.inj h
    have HR := Aside0.mk hr0
    clear h
    cases A0 with
    | none =>
      have h0 : l0.length = 0 := by
        by_cases h : 0 < l0.length
        · obtain ⟨ad, e, _⟩ := (Kd.reads_of_C (d := (0 : Int)) hr0).2.2 h
          cases e
        · omega
      obtain rfl := List.eq_nil_of_length_eq_zero h0
      clear hr0
      have hnil : ∀ W : World, (binOp .eql 33 (.slice none 0 c0) (.slice none 0 0)).run Tryd.prog W = .ok (.bool true) W := fun _ => by kernel_rfl
      go_enter Tryd.func96, Tryd.ntmps96
      go_wp2_with fail
      go_ret
      exact ⟨_, rfl, Kd.R_nil _ _ _ _ _, Below.refl _ _⟩
    | some ad =>
      clear hr0
      have hnil : ∀ W : World, (binOp .eql 33 (.slice (some ad) l0.length c0) (.slice none 0 0)).run Tryd.prog W = .ok (.bool false) W := fun _ => by kernel_rfl
      go_enter Tryd.func96, Tryd.ntmps96
      go_wp2_with (first | ((with_reducible refine gate_dst (N := 5) rfl ?_); refine Kd.R_lit (Kd.int .u8) _ 5 ?hg (N := 5) ?hd (xs := ([] : List Int)) (inner := []) (ok := fun _ => True) (okp := fun _ => True) ?hr ?hp (fun _ hk => hk) trivial (Below.refl _ _) (Nat.le_refl _) (by simp) ?_; (case hd => rfl); (case hg => rfl); (case hr => first | (go_simp; done) | (go_simp; rfl)); (case hp => exact (Reps.none _ _)); intro v1 w1 ho1 hb1 hg1 hn1; have HO1 := Aside0.mk ho1; have HB1 := Aside0.mk hb1; clear ho1 hb1 hg1 hn1) | ((with_reducible refine gate_builtin (b := .append) (xs := #[.tmp 5, .tmp 6]) rfl ?_); at_builtin; refine Kd.R_append_rows (Kd.int .u8) (w0 := w) w.heap.size rfl (.tmp 5) (.tmp 6) 33 5 (.int .u8 0) 1 rfl Tryd.underlying33 info5 rfl (by decide) (by omega) v1 [] l0 _ _ _ (fun _ => True) (fun _ => False) rfl rfl ?aO ?aR (fun _ _ h => h) (fun _ h => h.elim) ?aF ?aB ?aS ?aL ?_; (case aR => exact Kd.C_below HR.out HB1.out); (case aB => exact HB1.out); (case aF => exact (fun _ _ => trivial)); (case aO => exact HO1.out); (case aS => exact HB1.out.size); (case aL => simp; omega); intro v2 w2 ho hb2 hg hat; have HO2 := Aside0.mk ho; have HB2 := Aside0.mk hb2; clear ho hb2 hg hat))
      go_ret
      exact ⟨_, rfl, HO2.out, HB2.out⟩

end Go.Proofs.YtbedgjjiinhpkaaDoor.P

-- FbitsRotateLeft32
namespace Go.Proofs.YtbedgjjiinhpkaaDoor.P
open Go.RowKit Go.Proofs.YtbedgjjiinhpkaaDoorW.PrintWords Go.Proofs.YtbedgjjiinhpkaaDoorW.PrintLast Go.Proofs.YtbedgjjiinhpkaaDoorW.PrintMore
attribute [local go_sem] max2_int min2_int max_two min_two max_three min_three max_four min_four   -- for this text's walks alone
set_option linter.unusedVariables false
set_option linter.unusedSimpArgs false

/-! ### bits_RotateLeft32: function 225 -/
def bits_RotateLeft32.f (a0 : Int) (a1 : Int) : Option (Int) := if 0 ≤ (Go.bits .and .u64 (IntKind.u64.wrap (a1)) 31) then (if 0 ≤ (IntKind.u64.wrap (32 - (Go.bits .and .u64 (IntKind.u64.wrap (a1)) 31))) then (some (Go.bits .or .u32 (shl .u32 a0 (Go.bits .and .u64 (IntKind.u64.wrap (a1)) 31)) (shr .u32 a0 (IntKind.u64.wrap (32 - (Go.bits .and .u64 (IntKind.u64.wrap (a1)) 31)))))) else (none)) else (none)
set_option maxHeartbeats 8000000 in
set_option maxRecDepth 100000 in
theorem bits_RotateLeft32.calls (a0 : Int) (a1 : Int) (r : Int) (w : World) (h : bits_RotateLeft32.f a0 a1 = some r) :
    Calls Tryd.prog 225 #[.int .u32 a0, .int .i64 a1] w fun e w' => e = .returned (.int .u32 r) ∧ Drawn0 w w' := by
  have H : (if 0 ≤ (Go.bits .and .u64 (IntKind.u64.wrap (a1)) 31) then (if 0 ≤ (IntKind.u64.wrap (32 - (Go.bits .and .u64 (IntKind.u64.wrap (a1)) 31))) then (some (Go.bits .or .u32 (shl .u32 a0 (Go.bits .and .u64 (IntKind.u64.wrap (a1)) 31)) (shr .u32 a0 (IntKind.u64.wrap (32 - (Go.bits .and .u64 (IntKind.u64.wrap (a1)) 31)))))) else (none)) else (none)) = some r := h
  clear h
  obtain ⟨ji3, hji3⟩ : ∃ j_ : Int, (Go.bits .and .u64 (IntKind.u64.wrap (a1)) 31) = j_ := ⟨_, rfl⟩
  replace H : (if 0 ≤ (ji3) then (if 0 ≤ (IntKind.u64.wrap (32 - (ji3))) then (some (Go.bits .or .u32 (shl .u32 a0 (ji3)) (shr .u32 a0 (IntKind.u64.wrap (32 - (ji3)))))) else (none)) else (none)) = some r := by first | (rw [hji3] at H; exact H) | (simp only [hji3] at H ⊢; exact H)
  by_cases c4 : 0 ≤ (ji3)
  · rw [if_pos c4] at H
    have c4b0 := eq_true c4
    have c4b1 : decide (0 ≤ (ji3)) = true := decide_eq_true c4
    clear c4
    obtain ⟨ji5, hji5⟩ : ∃ j_ : Int, (shl .u32 a0 (ji3)) = j_ := ⟨_, rfl⟩
    replace H : (if 0 ≤ (IntKind.u64.wrap (32 - (ji3))) then (some (Go.bits .or .u32 (ji5) (shr .u32 a0 (IntKind.u64.wrap (32 - (ji3)))))) else (none)) = some r := by first | (rw [hji5] at H; exact H) | (simp only [hji5] at H ⊢; exact H)
    have hji5_ : (IntKind.u32.wrap (a0 * 2 ^ min (ji3).toNat 32)) = ji5 := hji5
    have hji5z : (ji3) ≤ 32 → (IntKind.u32.wrap (a0 * 2 ^ (ji3).toNat)) = ji5 := shl_small hji5
    obtain ⟨ji6, hji6⟩ : ∃ j_ : Int, (IntKind.u64.wrap (32 - (ji3))) = j_ := ⟨_, rfl⟩
    replace H : (if 0 ≤ (ji6) then (some (Go.bits .or .u32 (ji5) (shr .u32 a0 (ji6)))) else (none)) = some r := by first | (rw [hji6] at H; exact H) | (simp only [hji6] at H ⊢; exact H)
    by_cases c7 : 0 ≤ (ji6)
    · rw [if_pos c7] at H
      have c7b0 := eq_true c7
      have c7b1 : decide (0 ≤ (ji6)) = true := decide_eq_true c7
      clear c7
      obtain ⟨ji8, hji8⟩ : ∃ j_ : Int, (shr .u32 a0 (ji6)) = j_ := ⟨_, rfl⟩
      replace H : (some (Go.bits .or .u32 (ji5) (ji8))) = some r := by first | (rw [hji8] at H; exact H) | (simp only [hji8] at H ⊢; exact H)
      have hji8_ : (a0 / 2 ^ min (ji6).toNat 32) = ji8 := hji8
      have hji8z : (ji6) ≤ 32 → (a0 / 2 ^ (ji6).toNat) = ji8 := shr_small hji8
      obtain rfl := Option.some.inj H
      go_enter Tryd.func225, Tryd.ntmps225
      go_wp2
      go_ret
      exact ⟨by first | rfl | (simp; done) | (simp only [← hji3, ← hji5, ← hji6, ← hji8] <;> (first | rfl | simp)) | (simp [*]; done), by repeat (first | exact Drawn0.refl _ | apply Drawn0.step)⟩
    · rw [if_neg c7] at H
      exact absurd H (by simp)
  · rw [if_neg c4] at H
    exact absurd H (by simp)

end Go.Proofs.YtbedgjjiinhpkaaDoor.P

-- Fshagamma
namespace Go.Proofs.YtbedgjjiinhpkaaDoor.P
open Go.RowKit Go.Proofs.YtbedgjjiinhpkaaDoorW.PrintWords Go.Proofs.YtbedgjjiinhpkaaDoorW.PrintLast Go.Proofs.YtbedgjjiinhpkaaDoorW.PrintMore
attribute [local go_sem] max2_int min2_int max_two min_two max_three min_three max_four min_four   -- for this text's walks alone
set_option linter.unusedVariables false
set_option linter.unusedSimpArgs false

/-! ### sha_gamma: function 224 -/
def sha_gamma.f (a0 : Int) (a1 : Int) (a2 : Int) (a3 : Int) : Option (Int) := (bits_RotateLeft32.f a0 (wrap64 (32 - a1))).bind fun t115 => ((bits_RotateLeft32.f a0 (wrap64 (32 - a2))).bind fun t116 => (if 0 ≤ a3 then (some (Go.bits .xor .u32 (Go.bits .xor .u32 t115 t116) (shr .u32 a0 a3))) else (none)))
set_option maxHeartbeats 8000000 in
set_option maxRecDepth 100000 in
theorem sha_gamma.calls (a0 : Int) (a1 : Int) (a2 : Int) (a3 : Int) (r : Int) (w : World) (h : sha_gamma.f a0 a1 a2 a3 = some r) :
    Calls Tryd.prog 224 #[.int .u32 a0, .int .i64 a1, .int .i64 a2, .int .i64 a3] w fun e w' => e = .returned (.int .u32 r) ∧ Drawn0 w w' := by
  have H : ((bits_RotateLeft32.f a0 (wrap64 (32 - a1))).bind fun t115 => ((bits_RotateLeft32.f a0 (wrap64 (32 - a2))).bind fun t116 => (if 0 ≤ a3 then (some (Go.bits .xor .u32 (Go.bits .xor .u32 t115 t116) (shr .u32 a0 a3))) else (none)))) = some r := h
  clear h
  replace H := Option.bind_eq_some_iff.mp H
  obtain ⟨t115, A50, H⟩ := H
  replace H : ((bits_RotateLeft32.f a0 (wrap64 (32 - a2))).bind fun t116 => (if 0 ≤ a3 then (some (Go.bits .xor .u32 (Go.bits .xor .u32 t115 t116) (shr .u32 a0 a3))) else (none))) = some r := H
  have A5 := Aside0.mk A50
  clear A50
  replace H := Option.bind_eq_some_iff.mp H
  obtain ⟨t116, A60, H⟩ := H
  replace H : (if 0 ≤ a3 then (some (Go.bits .xor .u32 (Go.bits .xor .u32 t115 t116) (shr .u32 a0 a3))) else (none)) = some r := H
  have A6 := Aside0.mk A60
  clear A60
  by_cases c7 : 0 ≤ a3
  · rw [if_pos c7] at H
    have c7b0 := eq_true c7
    have c7b1 : decide (0 ≤ a3) = true := decide_eq_true c7
    clear c7
    obtain ⟨ji8, hji8⟩ : ∃ j_ : Int, (shr .u32 a0 a3) = j_ := ⟨_, rfl⟩
    replace H : (some (Go.bits .xor .u32 (Go.bits .xor .u32 t115 t116) (ji8))) = some r := by first | (rw [hji8] at H; exact H) | (simp only [hji8] at H ⊢; exact H)
    (try rw [hji8] at A5)
    (try rw [hji8] at A6)
    have hji8_ : (a0 / 2 ^ min a3.toNat 32) = ji8 := hji8
    have hji8z : a3 ≤ 32 → (a0 / 2 ^ a3.toNat) = ji8 := shr_small hji8
    obtain rfl := Option.some.inj H
    go_enter Tryd.func224, Tryd.ntmps224
    go_wp2_with (first | (go_at_call 225; (with_reducible refine (bits_RotateLeft32.calls a0 (wrap64 (32 - a1)) t115 _ A5.out).mono ?_); rintro e w' ⟨rfl, ⟨nd, rfl⟩⟩; (try first | exact ⟨rfl, _, World.drewN_drewN _ _ _⟩ | exact ⟨rfl, _, Eq.trans (World.drewN_drewN _ _ _) (congrArg (World.drewN _) (Nat.add_assoc _ _ _))⟩)) | (go_at_call 225; (with_reducible refine (bits_RotateLeft32.calls a0 (wrap64 (32 - a2)) t116 _ A6.out).mono ?_); rintro e w' ⟨rfl, ⟨nd, rfl⟩⟩; (try first | exact ⟨rfl, _, World.drewN_drewN _ _ _⟩ | exact ⟨rfl, _, Eq.trans (World.drewN_drewN _ _ _) (congrArg (World.drewN _) (Nat.add_assoc _ _ _))⟩)))
    repeat (go_quiet (first | (go_at_call 225; (with_reducible refine (bits_RotateLeft32.calls a0 (wrap64 (32 - a1)) t115 _ A5.out).mono ?_); rintro e w' ⟨rfl, ⟨nd, rfl⟩⟩; (try first | exact ⟨rfl, _, World.drewN_drewN _ _ _⟩ | exact ⟨rfl, _, Eq.trans (World.drewN_drewN _ _ _) (congrArg (World.drewN _) (Nat.add_assoc _ _ _))⟩)) | (go_at_call 225; (with_reducible refine (bits_RotateLeft32.calls a0 (wrap64 (32 - a2)) t116 _ A6.out).mono ?_); rintro e w' ⟨rfl, ⟨nd, rfl⟩⟩; (try first | exact ⟨rfl, _, World.drewN_drewN _ _ _⟩ | exact ⟨rfl, _, Eq.trans (World.drewN_drewN _ _ _) (congrArg (World.drewN _) (Nat.add_assoc _ _ _))⟩))); try go_wp2_with (first | (go_at_call 225; (with_reducible refine (bits_RotateLeft32.calls a0 (wrap64 (32 - a1)) t115 _ A5.out).mono ?_); rintro e w' ⟨rfl, ⟨nd, rfl⟩⟩; (try first | exact ⟨rfl, _, World.drewN_drewN _ _ _⟩ | exact ⟨rfl, _, Eq.trans (World.drewN_drewN _ _ _) (congrArg (World.drewN _) (Nat.add_assoc _ _ _))⟩)) | (go_at_call 225; (with_reducible refine (bits_RotateLeft32.calls a0 (wrap64 (32 - a2)) t116 _ A6.out).mono ?_); rintro e w' ⟨rfl, ⟨nd, rfl⟩⟩; (try first | exact ⟨rfl, _, World.drewN_drewN _ _ _⟩ | exact ⟨rfl, _, Eq.trans (World.drewN_drewN _ _ _) (congrArg (World.drewN _) (Nat.add_assoc _ _ _))⟩))))
    go_ret
    exact ⟨by first | rfl | (simp; done) | (simp only [← hji8] <;> (first | rfl | simp)) | (simp [*]; done), by repeat (first | exact Drawn0.refl _ | apply Drawn0.step)⟩
  · rw [if_neg c7] at H
    exact absurd H (by simp)

end Go.Proofs.YtbedgjjiinhpkaaDoor.P

-- Fshasigma
namespace Go.Proofs.YtbedgjjiinhpkaaDoor.P
open Go.RowKit Go.Proofs.YtbedgjjiinhpkaaDoorW.PrintWords Go.Proofs.YtbedgjjiinhpkaaDoorW.PrintLast Go.Proofs.YtbedgjjiinhpkaaDoorW.PrintMore
attribute [local go_sem] max2_int min2_int max_two min_two max_three min_three max_four min_four   -- for this text's walks alone
set_option linter.unusedVariables false
set_option linter.unusedSimpArgs false

/-! ### sha_sigma: function 215 -/
def sha_sigma.f (a0 : Int) (a1 : Int) (a2 : Int) (a3 : Int) : Option (Int) := (bits_RotateLeft32.f a0 (wrap64 (32 - a1))).bind fun t117 => ((bits_RotateLeft32.f a0 (wrap64 (32 - a2))).bind fun t118 => ((bits_RotateLeft32.f a0 (wrap64 (32 - a3))).bind fun t119 => (some (Go.bits .xor .u32 (Go.bits .xor .u32 t117 t118) t119))))
set_option maxHeartbeats 8000000 in
set_option maxRecDepth 100000 in
theorem sha_sigma.calls (a0 : Int) (a1 : Int) (a2 : Int) (a3 : Int) (r : Int) (w : World) (h : sha_sigma.f a0 a1 a2 a3 = some r) :
    Calls Tryd.prog 215 #[.int .u32 a0, .int .i64 a1, .int .i64 a2, .int .i64 a3] w fun e w' => e = .returned (.int .u32 r) ∧ Drawn0 w w' := by
  have H : ((bits_RotateLeft32.f a0 (wrap64 (32 - a1))).bind fun t117 => ((bits_RotateLeft32.f a0 (wrap64 (32 - a2))).bind fun t118 => ((bits_RotateLeft32.f a0 (wrap64 (32 - a3))).bind fun t119 => (some (Go.bits .xor .u32 (Go.bits .xor .u32 t117 t118) t119))))) = some r := h
  clear h
  replace H := Option.bind_eq_some_iff.mp H
  obtain ⟨t117, A50, H⟩ := H
  replace H : ((bits_RotateLeft32.f a0 (wrap64 (32 - a2))).bind fun t118 => ((bits_RotateLeft32.f a0 (wrap64 (32 - a3))).bind fun t119 => (some (Go.bits .xor .u32 (Go.bits .xor .u32 t117 t118) t119)))) = some r := H
  have A5 := Aside0.mk A50
  clear A50
  replace H := Option.bind_eq_some_iff.mp H
  obtain ⟨t118, A60, H⟩ := H
  replace H : ((bits_RotateLeft32.f a0 (wrap64 (32 - a3))).bind fun t119 => (some (Go.bits .xor .u32 (Go.bits .xor .u32 t117 t118) t119))) = some r := H
  have A6 := Aside0.mk A60
  clear A60
  replace H := Option.bind_eq_some_iff.mp H
  obtain ⟨t119, A70, H⟩ := H
  replace H : (some (Go.bits .xor .u32 (Go.bits .xor .u32 t117 t118) t119)) = some r := H
  have A7 := Aside0.mk A70
  clear A70
  obtain rfl := Option.some.inj H
  go_enter Tryd.func215, Tryd.ntmps215
  go_wp2_with (first | ((with_reducible refine gate_callee (f := 225) rfl ?_); refine goesL_ (some 12) rfl rfl Tryd.func225 (by kernel_rfl) rfl #[.int .u32 a0, .int .i64 (wrap64 (32 - a1))] rfl (by (try simp only [List.map_toArray, List.map_cons, List.map_nil]); first | done | rfl | (simp only [List.length_drop, List.length_take]; rfl)) ?_; (with_reducible refine (bits_RotateLeft32.calls a0 (wrap64 (32 - a1)) t117 _ A5.out).mono ?_); rintro e w' ⟨rfl, ⟨nd, rfl⟩⟩; refine ⟨_, rfl, ?_⟩) | ((with_reducible refine gate_callee (f := 225) rfl ?_); refine goesL_ (some 16) rfl rfl Tryd.func225 (by kernel_rfl) rfl #[.int .u32 a0, .int .i64 (wrap64 (32 - a2))] rfl (by (try simp only [List.map_toArray, List.map_cons, List.map_nil]); first | done | rfl | (simp only [List.length_drop, List.length_take]; rfl)) ?_; (with_reducible refine (bits_RotateLeft32.calls a0 (wrap64 (32 - a2)) t118 _ A6.out).mono ?_); rintro e w' ⟨rfl, ⟨nd, rfl⟩⟩; refine ⟨_, rfl, ?_⟩) | ((with_reducible refine gate_callee (f := 225) rfl ?_); refine goesL_ (some 21) rfl rfl Tryd.func225 (by kernel_rfl) rfl #[.int .u32 a0, .int .i64 (wrap64 (32 - a3))] rfl (by (try simp only [List.map_toArray, List.map_cons, List.map_nil]); first | done | rfl | (simp only [List.length_drop, List.length_take]; rfl)) ?_; (with_reducible refine (bits_RotateLeft32.calls a0 (wrap64 (32 - a3)) t119 _ A7.out).mono ?_); rintro e w' ⟨rfl, ⟨nd, rfl⟩⟩; refine ⟨_, rfl, ?_⟩))
  go_ret
  exact ⟨by first | rfl | (simp; done) | (simp [*]; done), by repeat (first | exact Drawn0.refl _ | apply Drawn0.step)⟩

end Go.Proofs.YtbedgjjiinhpkaaDoor.P

-- Glob
set_option linter.unusedVariables false
set_option linter.unusedSimpArgs false
namespace Go.Proofs.YtbedgjjiinhpkaaDoor.P
open Go.RowKit Go.Proofs.YtbedgjjiinhpkaaDoorW.PrintWords Go.Proofs.YtbedgjjiinhpkaaDoorW.PrintLast Go.Proofs.YtbedgjjiinhpkaaDoorW.PrintMore

/-- math/bits.deBruijn64tab stands as its text lays it. -/
def GlobT (w : World) : Prop := ∀ j, j < 64 → w.cell? ⟨1, j, none⟩ = some (.int .u8 (Lib.deBruijn64tab.getD j 0))

theorem GlobT.of {w0 w : World} (h : GlobT w0) (hb : Below w0.heap.size w0 w) : GlobT w :=
  fun j hj => (hb.cell (World.block_lt_of_cell? w0 _ (h j hj))).trans (h j hj)
theorem GlobT.alloc {w : World} (h : GlobT w) (o : Obj) : GlobT (w.alloc o) := h.of (below_alloc (Below.refl _ _) o)
theorem GlobT.drew {w : World} (h : GlobT w) : GlobT w.drew := h
theorem GlobT.drewN {w : World} (h : GlobT w) (n : Nat) : GlobT (w.drewN n) := h.of (pw_below_drewN (Below.refl _ _) n)
theorem GlobT.drawn {w w' : World} (h : GlobT w) (hd : Drawn0 w w') : GlobT w' := h.of hd.below

/-- sha.first, sha.added stand as their texts lay them. -/
def shaFirst : List Int := [1779033703, 3144134277, 1013904242, 2773480762, 1359893119, 2600822924, 528734635, 1541459225]
def shaAdded : List Int := [1116352408, 1899447441, 3049323471, 3921009573, 961987163, 1508970993, 2453635748, 2870763221, 3624381080, 310598401, 607225278, 1426881987, 1925078388, 2162078206, 2614888103, 3248222580, 3835390401, 4022224774, 264347078, 604807628, 770255983, 1249150122, 1555081692, 1996064986, 2554220882, 2821834349, 2952996808, 3210313671, 3336571891, 3584528711, 113926993, 338241895, 666307205, 773529912, 1294757372, 1396182291, 1695183700, 1986661051, 2177026350, 2456956037, 2730485921, 2820302411, 3259730800, 3345764771, 3516065817, 3600352804, 4094571909, 275423344, 430227734, 506948616, 659060556, 883997877, 958139571, 1322822218, 1537002063, 1747873779, 1955562222, 2024104815, 2227730452, 2361852424, 2428436474, 2756734187, 3204031479, 3329325298]
def GlobS (w : World) : Prop := (∀ j, j < 8 → w.cell? ⟨2, j, none⟩ = some (.int .u32 (shaFirst.getD j 0))) ∧ (∀ j, j < 64 → w.cell? ⟨4, j, none⟩ = some (.int .u32 (shaAdded.getD j 0)))
theorem GlobS.of {w0 w : World} (h : GlobS w0) (hb : Below w0.heap.size w0 w) : GlobS w :=
  ⟨fun j hj => (hb.cell (World.block_lt_of_cell? w0 _ (h.1 j hj))).trans (h.1 j hj), fun j hj => (hb.cell (World.block_lt_of_cell? w0 _ (h.2 j hj))).trans (h.2 j hj)⟩
theorem GlobS.alloc {w : World} (h : GlobS w) (o : Obj) : GlobS (w.alloc o) := h.of (below_alloc (Below.refl _ _) o)
theorem GlobS.drew {w : World} (h : GlobS w) : GlobS w.drew := h
theorem GlobS.drewN {w : World} (h : GlobS w) (n : Nat) : GlobS (w.drewN n) := h.of (pw_below_drewN (Below.refl _ _) n)
theorem GlobS.drawn {w w' : World} (h : GlobS w) (hd : Drawn0 w w') : GlobS w' := h.of hd.below

end Go.Proofs.YtbedgjjiinhpkaaDoor.P

-- ShaA
set_option linter.unusedVariables false
set_option linter.unusedSimpArgs false
namespace Go.Proofs.YtbedgjjiinhpkaaDoor.P
open Go.RowKit Go.Proofs.YtbedgjjiinhpkaaDoorW.PrintWords Go.Proofs.YtbedgjjiinhpkaaDoorW.PrintLast Go.Proofs.YtbedgjjiinhpkaaDoorW.PrintMore

/-- Words as a block's cells. -/
def words (xs : List Int) : Array Value := (xs.map (Value.int .u32)).toArray

theorem words_get (xs : List Int) (i : Nat) (h : i < xs.length) : (words xs)[i]? = some (.int .u32 (xs.getD i 0)) := by
  unfold words
  rw [List.getElem?_toArray, List.getElem?_map, List.getElem?_eq_getElem h, List.getD_eq_getElem?_getD, List.getElem?_eq_getElem h]
  rfl
theorem words_set (xs : List Int) (i : Nat) (x : Int) : (words xs).setIfInBounds i (.int .u32 x) = words (xs.set i x) := by
  unfold words
  rw [List.map_set]
  simp

/-- A block of words. -/
def IsWords (w : World) (g t : Nat) (xs : List Int) : Prop := w.heap[g]? = some (.cells (words xs) t (0, 0))
theorem IsWords.cell {w : World} {g t : Nat} {xs : List Int} (h : IsWords w g t xs) (i : Nat) (hi : i < xs.length) : w.cell? ⟨g, i, none⟩ = some (.int .u32 (xs.getD i 0)) :=
  (blk_cell h i).trans (words_get xs i hi)
theorem IsWords.frozen {w : World} {g t : Nat} {xs : List Int} (h : IsWords w g t xs) (i : Nat) : w.frozen? ⟨g, i, none⟩ = false := blk_frozen h i
theorem IsWords.set {w : World} {g t : Nat} {xs : List Int} (h : IsWords w g t xs) (i : Nat) (x : Int) : IsWords (w.setCell ⟨g, i, none⟩ (.int .u32 x)) g t (xs.set i x) := by
  unfold IsWords
  rw [← words_set]
  exact blk_set h i _
theorem IsWords.drewN {w : World} {g t : Nat} {xs : List Int} (h : IsWords w g t xs) (n : Nat) : IsWords (w.drewN n) g t xs := h

def zeros64 : List Int := List.replicate 64 0

/-- One of the later words. -/
def sched2At (xs : List Int) (i : Nat) : Int := ((((sha_gamma.f (xs.getD (i - 2) 0) 17 19 10).getD 0 + xs.getD (i - 7) 0) % 4294967296 + (sha_gamma.f (xs.getD (i - 15) 0) 7 18 3).getD 0) % 4294967296 + xs.getD (i - 16) 0) % 4294967296
/-- The words from the seventeenth on, behind so many of them. -/
def sched2 (xs : List Int) : Nat → List Int
  | 0 => xs
  | k + 1 => (sched2 xs k).set (k + 16) (sched2At (sched2 xs k) (k + 16))
/-- The first sixteen words, behind so many bytes. -/
def sched1 (bs : List Int) : Nat → List Int
  | 0 => zeros64
  | k + 1 => (sched1 bs k).set (k / 4) (Go.bits .or .u32 (((sched1 bs k).getD (k / 4) 0) * 256 % 4294967296) (rd bs (k : Int) % 4294967296))

/-- A block's words, all of them. -/
def schedule (bs : List Int) : List Int := sched2 (sched1 bs 64) 48

theorem sched1_length (bs : List Int) (k : Nat) : (sched1 bs k).length = 64 := by
  induction k with
  | zero => simp [sched1, zeros64]
  | succ k ih => simp [sched1, ih]

theorem sched2_length (xs : List Int) (k : Nat) (h : xs.length = 64) : (sched2 xs k).length = 64 := by
  induction k with
  | zero => exact h
  | succ k ih => simp [sched2, ih]

theorem cell_set_ne {w : World} {g i j n : Nat} {u : Value} (h : i ≠ j) (v : Value) (hc : w.cell? ⟨g, i, none⟩ = some u) : ((w.drewN n).setCell ⟨g, j, none⟩ v).cell? ⟨g, i, none⟩ = some u := by
  refine (World.cell?_setCell_other _ _ _ _ (fun e => ?_)).trans ?_
  · simp only [Addr.mk.injEq] at e
    omega
  · exact hc

theorem bits_u64_nonneg (op : BinOp) (x y : Int) : 0 ≤ Go.bits op .u64 x y := by
  unfold Go.bits
  rw [IntKind.wrap_u64]
  omega

theorem rot_some (x n : Int) : ∃ r, bits_RotateLeft32.f x n = some r := by
  unfold bits_RotateLeft32.f
  rw [if_pos (bits_u64_nonneg _ _ _), if_pos (by rw [IntKind.wrap_u64]; omega)]
  exact ⟨_, rfl⟩

theorem gamma_some (x a b c : Int) (hc : 0 ≤ c) : sha_gamma.f x a b c = some ((sha_gamma.f x a b c).getD 0) := by
  unfold sha_gamma.f
  obtain ⟨r1, h1⟩ := rot_some x (wrap64 (32 - a))
  obtain ⟨r2, h2⟩ := rot_some x (wrap64 (32 - b))
  rw [h1, h2]
  simp only [Option.bind_some]
  rw [if_pos hc]
  rfl

theorem sigma_some (x a b c : Int) : sha_sigma.f x a b c = some ((sha_sigma.f x a b c).getD 0) := by
  unfold sha_sigma.f
  obtain ⟨r1, h1⟩ := rot_some x (wrap64 (32 - a))
  obtain ⟨r2, h2⟩ := rot_some x (wrap64 (32 - b))
  obtain ⟨r3, h3⟩ := rot_some x (wrap64 (32 - c))
  rw [h1, h2, h3]
  rfl

set_option maxHeartbeats 1000000 in
set_option maxRecDepth 100000 in
theorem scheduleOf_calls (A0 : Option Addr) (c0 : Nat) (bs : List Int) (w : World) (hr : Kd.C (Kd.int .u8) w A0 bs.length bs) (hc : bs.length ≤ c0) (hl : 64 ≤ bs.length) (hb : bs.length < 9223372036854775807) :
    Calls Tryd.prog 214 #[.slice A0 bs.length c0] w fun e w' => e = .returned (.pointer (some ⟨w.heap.size, 0, none⟩)) ∧ IsWords w' w.heap.size 258 (schedule bs) ∧ Below w.heap.size w w' := by
  have HR := Aside0.mk hr
  have hc64 : 64 ≤ c0 := by omega
  clear hr hc
  go_enter Tryd.func214, Tryd.ntmps214
  go_wp2_with fail
  obtain ⟨g, hg⟩ : ∃ g, g = w.heap.size := ⟨_, rfl⟩
  rw [← hg]
  have HG := Aside0.mk hg
  clear hg
  go_loopw [10] (fun v10 wr => ∃ k : Nat, k ≤ 64 ∧ v10 = .int .i64 k ∧ Aside0 (IsWords wr g 258 (sched1 bs k)) ∧ Aside0 (Below w.heap.size w wr)) (fun v10 _ => 64 - (intOf v10).toNat)
  case atStart => exact ⟨0, by omega, rfl, ⟨by rw [HG.out]; exact heap_alloc_new w _⟩, ⟨below_alloc (Below.refl _ _) _⟩⟩
  case round =>
    obtain ⟨k, hk, rfl, HI, HB⟩ := hrel
    by_cases hlt : k < 64
    · have hd : decide ((k : Int) < 64) = true := by simp; omega
      obtain ⟨ad, rfl, hx0⟩ := Kd.at_int HR.out (k : Int) (by omega) (by omega)
      have hx := (HB.out.cell (World.block_lt_of_cell? w _ hx0)).trans hx0
      clear hx0
      rw [Int.toNat_natCast] at hx
      have hk4 : k / 4 < 64 := by omega
      have hc := HI.out.cell (k / 4) (by rw [sched1_length]; omega)
      have hf := HI.out.frozen (k / 4)
      go_wp2_with fail
      go_roundw
      case rel =>
        refine ⟨k + 1, by omega, by go_num, ⟨?_⟩, ⟨HB.out.setCell (by show w.heap.size ≤ g; rw [HG.out]; omega) _⟩⟩
        have := HI.out.set (k / 4) (Go.bits .or .u32 (((sched1 bs k).getD (k / 4) 0) * 256 % 4294967296) (rd bs (k : Int) % 4294967296))
        rw [List.getD_eq_getElem?_getD] at this
        simpa only [sched1, List.getD_eq_getElem?_getD] using this
      case measure => simp [intOf]; omega
    · have hd : decide ((k : Int) < 64) = false := by simp; omega
      have hk64 : k = 64 := by omega
      rw [hk64] at HI
      clear hk64 hk hlt
      go_wp2_with fail
      obtain ⟨xs0, hxs0⟩ : ∃ xs, xs = sched1 bs 64 := ⟨_, rfl⟩
      have hl0 : xs0.length = 64 := by rw [hxs0]; exact sched1_length _ _
      rw [← hxs0] at HI
      have HL0 := Aside0.mk hl0
      have HX0 := Aside0.mk hxs0
      clear hl0 hxs0 hd
      go_loopw [6] (fun v6 wr => ∃ k : Nat, k ≤ 48 ∧ v6 = .int .i64 (16 + k : Nat) ∧ Aside0 (IsWords wr g 258 (sched2 xs0 k)) ∧ Aside0 (Below w.heap.size w wr)) (fun v6 _ => 64 - (intOf v6).toNat)
      case atStart => exact ⟨0, by omega, rfl, HI, HB⟩
      case round =>
        obtain ⟨k, hk, rfl, HI, HB⟩ := hrel
        by_cases hlt : k < 48
        · obtain ⟨j, hj⟩ : ∃ j, j = 16 + k := ⟨_, rfl⟩
          rw [← hj]
          obtain ⟨xs, hxs⟩ : ∃ xs, xs = sched2 xs0 k := ⟨_, rfl⟩
          rw [← hxs] at HI
          have hxl : xs.length = 64 := by rw [hxs]; exact sched2_length xs0 k HL0.out
          have HXS := Aside0.mk hxs
          have HJ := Aside0.mk hj
          have j0 : 16 ≤ j := by omega
          have j1 : j < 64 := by omega
          obtain ⟨x2, hx2⟩ : ∃ x, x = xs.getD (j - 2) 0 := ⟨_, rfl⟩
          obtain ⟨x7, hx7⟩ : ∃ x, x = xs.getD (j - 7) 0 := ⟨_, rfl⟩
          obtain ⟨x15, hx15⟩ : ∃ x, x = xs.getD (j - 15) 0 := ⟨_, rfl⟩
          obtain ⟨x16, hx16⟩ : ∃ x, x = xs.getD (j - 16) 0 := ⟨_, rfl⟩
          obtain ⟨j2, hj2⟩ : ∃ x, x = j - 2 := ⟨_, rfl⟩
          have c2 := HI.out.cell (j - 2) (by omega)
          rw [← hj2] at c2 hx2
          have HJ2 := Aside0.mk hj2
          clear hj2
          obtain ⟨j7, hj7⟩ : ∃ x, x = j - 7 := ⟨_, rfl⟩
          have c7 := HI.out.cell (j - 7) (by omega)
          rw [← hj7] at c7 hx7
          have HJ7 := Aside0.mk hj7
          clear hj7
          obtain ⟨j15, hj15⟩ : ∃ x, x = j - 15 := ⟨_, rfl⟩
          have c15 := HI.out.cell (j - 15) (by omega)
          rw [← hj15] at c15 hx15
          have HJ15 := Aside0.mk hj15
          clear hj15
          obtain ⟨j16, hj16⟩ : ∃ x, x = j - 16 := ⟨_, rfl⟩
          have c16 := HI.out.cell (j - 16) (by omega)
          rw [← hj16] at c16 hx16
          have HJ16 := Aside0.mk hj16
          clear hj16
          rw [← hx2] at c2
          rw [← hx7] at c7
          rw [← hx15] at c15
          rw [← hx16] at c16
          have hf := HI.out.frozen j
          have hcj := HI.out.cell j (by omega)
          have HX := Aside0.mk (And.intro hx2 (And.intro hx7 (And.intro hx15 hx16)))
          have G1 := Aside0.mk (gamma_some x2 17 19 10 (by omega))
          have G2 := Aside0.mk (gamma_some x15 7 18 3 (by omega))
          obtain ⟨y1, hy1⟩ : ∃ y, y = (sha_gamma.f x2 17 19 10).getD 0 := ⟨_, rfl⟩
          obtain ⟨y2, hy2⟩ : ∃ y, y = (sha_gamma.f x15 7 18 3).getD 0 := ⟨_, rfl⟩
          rw [← hy1] at G1
          rw [← hy2] at G2
          have HY := Aside0.mk (And.intro hy1 hy2)
          have HXL := Aside0.mk hxl
          have HK := Aside0.mk hlt
          clear hj hxs hx2 hx7 hx15 hx16 hy1 hy2 hxl hlt
          have hd : decide ((j : Int) < 64) = true := by simp; omega
          have pj : 0 ≤ (j : Int) := by omega
          have qj : (j : Int) < 64 := by omega
          go_wp2_with fail
          have w2 : IntKind.i64.wrap (j2 : Int) = (j2 : Int) := by have := HJ2.out; exact IntWalk.i64_in _ ⟨by omega, by omega⟩
          have q2 : (j2 : Int) < 64 := by have := HJ2.out; omega
          have p2 : 0 ≤ (j2 : Int) := by omega
          have e2 : (j : Int) - 2 = (j2 : Int) := by have := HJ2.out; omega
          have w7 : IntKind.i64.wrap (j7 : Int) = (j7 : Int) := by have := HJ7.out; exact IntWalk.i64_in _ ⟨by omega, by omega⟩
          have q7 : (j7 : Int) < 64 := by have := HJ7.out; omega
          have p7 : 0 ≤ (j7 : Int) := by omega
          have e7 : (j : Int) - 7 = (j7 : Int) := by have := HJ7.out; omega
          have w15 : IntKind.i64.wrap (j15 : Int) = (j15 : Int) := by have := HJ15.out; exact IntWalk.i64_in _ ⟨by omega, by omega⟩
          have q15 : (j15 : Int) < 64 := by have := HJ15.out; omega
          have p15 : 0 ≤ (j15 : Int) := by omega
          have e15 : (j : Int) - 15 = (j15 : Int) := by have := HJ15.out; omega
          have w16 : IntKind.i64.wrap (j16 : Int) = (j16 : Int) := by have := HJ16.out; exact IntWalk.i64_in _ ⟨by omega, by omega⟩
          have q16 : (j16 : Int) < 64 := by have := HJ16.out; omega
          have p16 : 0 ≤ (j16 : Int) := by omega
          have e16 : (j : Int) - 16 = (j16 : Int) := by have := HJ16.out; omega
          go_region_held3 (fun w' => w'.cell? ⟨g, j2, none⟩ = some (.int .u32 x2) ∧ w'.cell? ⟨g, j7, none⟩ = some (.int .u32 x7) ∧ w'.cell? ⟨g, j15, none⟩ = some (.int .u32 x15) ∧ w'.cell? ⟨g, j16, none⟩ = some (.int .u32 x16)) (first | go_keep | exact ⟨cell_set_ne (by have := HJ2.out; omega) _ c2, cell_set_ne (by have := HJ7.out; omega) _ c7, cell_set_ne (by have := HJ15.out; omega) _ c15, cell_set_ne (by have := HJ16.out; omega) _ c16⟩) (first | (go_at_call 224; ((with_reducible refine (sha_gamma.calls x2 17 19 10 y1 _ G1.out).mono ?_); rintro e w' ⟨rfl, ⟨m1, rfl⟩⟩)) | (go_at_call 224; ((with_reducible refine (sha_gamma.calls x15 7 18 3 y2 _ G2.out).mono ?_); rintro e w' ⟨rfl, ⟨m2, rfl⟩⟩)))
          go_wp2_with fail
          go_roundw
          case rel =>
            have hX := HX.out
            have hY := HY.out
            have hv : (((y1 + x7) % 4294967296 + y2) % 4294967296 + x16) % 4294967296 = sched2At (sched2 xs0 k) (k + 16) := by
              unfold sched2At
              rw [← HXS.out, show k + 16 = j from by rw [HJ.out]; omega, ← HJ2.out, ← HJ7.out, ← HJ15.out, ← HJ16.out, ← hX.1, ← hX.2.1, ← hX.2.2.1, ← hX.2.2.2, ← hY.1, ← hY.2]
            refine ⟨k + 1, by have := HK.out; omega, by rw [HJ.out]; go_num, ⟨?_⟩, ⟨(pw_below_drewN HB.out _).setCell (by show w.heap.size ≤ g; rw [HG.out]; omega) _⟩⟩
            rw [hv]
            have h1 := (HI.out.drewN (1 + m1 + m2)).set j (sched2At (sched2 xs0 k) (k + 16))
            have h2 : sched2 xs0 (k + 1) = xs.set j (sched2At (sched2 xs0 k) (k + 16)) := by
              simp only [sched2]
              rw [← HXS.out, show k + 16 = j from by rw [HJ.out]; omega]
            rw [h2]
            exact h1
          case measure => simp [intOf]; have := HJ.out; omega
        · have hd : decide (((16 + k : Nat) : Int) < 64) = false := by simp; omega
          obtain rfl : k = 48 := by omega
          go_wp2_with fail
          go_ret
          rw [← HG.out]
          refine ⟨rfl, ?_, by rw [HG.out]; exact HB.out⟩
          unfold schedule
          rw [← HX0.out]
          exact HI.out

end Go.Proofs.YtbedgjjiinhpkaaDoor.P

-- ShaB
set_option linter.unusedVariables false
set_option linter.unusedSimpArgs false
namespace Go.Proofs.YtbedgjjiinhpkaaDoor.P
open Go.RowKit Go.Proofs.YtbedgjjiinhpkaaDoorW.PrintWords Go.Proofs.YtbedgjjiinhpkaaDoorW.PrintLast Go.Proofs.YtbedgjjiinhpkaaDoorW.PrintMore

/-- The eight sums. -/
structure Sums where
  a : Int
  b : Int
  c : Int
  d : Int
  e : Int
  f : Int
  g : Int
  h : Int
def Sums.list (s : Sums) : List Int := [s.a, s.b, s.c, s.d, s.e, s.f, s.g, s.h]

/-- A round. -/
def Sums.round (s : Sums) (add wi : Int) : Sums :=
  let t := (s.h + (sha_sigma.f s.e 6 11 25).getD 0 + Go.bits .xor .u32 (Go.bits .and .u32 s.e (Go.bits .xor .u32 s.f s.g)) s.g + add + wi) % 4294967296
  let u := ((sha_sigma.f s.a 2 13 22).getD 0 + Go.bits .or .u32 (Go.bits .and .u32 s.a (Go.bits .or .u32 s.b s.c)) (Go.bits .and .u32 s.b s.c)) % 4294967296
  ⟨(t + u) % 4294967296, s.a, s.b, s.c, (s.d + t) % 4294967296, s.e, s.f, s.g⟩

/-- So many rounds. -/
def Sums.rounds (ws : List Int) (s : Sums) : Nat → Sums
  | 0 => s
  | k + 1 => (Sums.rounds ws s k).round (shaAdded.getD k 0) (ws.getD k 0)

/-- Words added, one by one, so many of them. -/
def addW (xs ys : List Int) : Nat → List Int
  | 0 => xs
  | k + 1 => (addW xs ys k).set k (((addW xs ys k).getD k 0 + ys.getD k 0) % 4294967296)
theorem addW_length (xs ys : List Int) (k : Nat) : (addW xs ys k).length = xs.length := by
  induction k with
  | zero => rfl
  | succ k ih => simp [addW, ih]

/-- A block taken into the sums. -/
def Sums.take (s : Sums) (bs : List Int) : List Int := addW (Sums.rounds (schedule bs) s 64).list s.list 8

set_option maxRecDepth 100000 in
theorem sums_index (s : Sums) (k : Nat) (hk : k < 8) (w : World) : (Instr.index 246 (.agg #[.int .u32 s.a, .int .u32 s.b, .int .u32 s.c, .int .u32 s.d, .int .u32 s.e, .int .u32 s.f, .int .u32 s.g, .int .u32 s.h]) (.int .i64 (k : Int))).run Tryd.prog w = .ok (.int .u32 (s.list.getD k 0)) w := by
  rcases (show k = 0 ∨ k = 1 ∨ k = 2 ∨ k = 3 ∨ k = 4 ∨ k = 5 ∨ k = 6 ∨ k = 7 by omega) with rfl | rfl | rfl | rfl | rfl | rfl | rfl | rfl
  all_goals kernel_rfl

theorem IsSums.cells {w : World} {g t : Nat} {s : Sums} (h : IsWords w g t s.list) :
    w.cell? ⟨g, 0, none⟩ = some (.int .u32 s.a) ∧ w.cell? ⟨g, 1, none⟩ = some (.int .u32 s.b) ∧ w.cell? ⟨g, 2, none⟩ = some (.int .u32 s.c) ∧ w.cell? ⟨g, 3, none⟩ = some (.int .u32 s.d) ∧
    w.cell? ⟨g, 4, none⟩ = some (.int .u32 s.e) ∧ w.cell? ⟨g, 5, none⟩ = some (.int .u32 s.f) ∧ w.cell? ⟨g, 6, none⟩ = some (.int .u32 s.g) ∧ w.cell? ⟨g, 7, none⟩ = some (.int .u32 s.h) :=
  ⟨blk_cell h 0, blk_cell h 1, blk_cell h 2, blk_cell h 3, blk_cell h 4, blk_cell h 5, blk_cell h 6, blk_cell h 7⟩

/-- Eight words stored. -/
def put8 (w : World) (g : Nat) (v0 v1 v2 v3 v4 v5 v6 v7 : Int) : World :=
  ((((((((w.setCell ⟨g, 0, none⟩ (.int .u32 v0)).setCell ⟨g, 1, none⟩ (.int .u32 v1)).setCell ⟨g, 2, none⟩ (.int .u32 v2)).setCell ⟨g, 3, none⟩ (.int .u32 v3)).setCell ⟨g, 4, none⟩ (.int .u32 v4)).setCell ⟨g, 5, none⟩ (.int .u32 v5)).setCell ⟨g, 6, none⟩ (.int .u32 v6)).setCell ⟨g, 7, none⟩ (.int .u32 v7))
theorem put8_words {w : World} {g t : Nat} {s : Sums} (h : IsWords w g t s.list) (v0 v1 v2 v3 v4 v5 v6 v7 : Int) : IsWords (put8 w g v0 v1 v2 v3 v4 v5 v6 v7) g t [v0, v1, v2, v3, v4, v5, v6, v7] :=
  (((((((h.set 0 v0).set 1 v1).set 2 v2).set 3 v3).set 4 v4).set 5 v5).set 6 v6).set 7 v7
theorem put8_far {w : World} {g g2 t : Nat} {xs : List Int} (h : IsWords w g2 t xs) (hne : g2 ≠ g) (v0 v1 v2 v3 v4 v5 v6 v7 : Int) : IsWords (put8 w g v0 v1 v2 v3 v4 v5 v6 v7) g2 t xs := by
  exact blk_far (blk_far (blk_far (blk_far (blk_far (blk_far (blk_far (blk_far (h) hne _) hne _) hne _) hne _) hne _) hne _) hne _) hne _
theorem put8_below {w0 w : World} {g : Nat} (h : Below w0.heap.size w0 w) (hg : w0.heap.size ≤ g) (v0 v1 v2 v3 v4 v5 v6 v7 : Int) : Below w0.heap.size w0 (put8 w g v0 v1 v2 v3 v4 v5 v6 v7) := by
  exact Below.setCell (Below.setCell (Below.setCell (Below.setCell (Below.setCell (Below.setCell (Below.setCell (Below.setCell (h) hg _) hg _) hg _) hg _) hg _) hg _) hg _) hg _
theorem put8_keep {w0 w : World} {g : Nat} (h : KeepBut w0 w g none) (v0 v1 v2 v3 v4 v5 v6 v7 : Int) : KeepBut w0 (put8 w g v0 v1 v2 v3 v4 v5 v6 v7) g none := by
  exact KeepBut.set_ (KeepBut.set_ (KeepBut.set_ (KeepBut.set_ (KeepBut.set_ (KeepBut.set_ (KeepBut.set_ (KeepBut.set_ (h) _ _) _ _) _ _) _ _) _ _) _ _) _ _) _ _

theorem quiet_drawn {P : Program} {f : FuncId} {args : Array Value} {w : World} {n : Nat} {v : Value}
    (h : Calls P f args (w.drewN n) fun e w' => e = .returned v ∧ Drawn0 (w.drewN n) w') : Calls P f args (w.drewN n) fun e w'' => e = .returned v ∧ ∃ m, w'' = w.drewN m :=
  Calls.quiet_of (h.mono fun _ _ ⟨he, hd⟩ => ⟨he, hd.out⟩)

theorem quiet_drawn2 {P : Program} {f : FuncId} {args : Array Value} {w : World} {q n : Nat} {v : Value}
    (h : Calls P f args (w.drewN (q + n)) fun e w' => e = .returned v ∧ Drawn0 (w.drewN (q + n)) w') : Calls P f args (w.drewN (q + n)) fun e w'' => e = .returned v ∧ ∃ m, w'' = w.drewN (q + m) :=
  h.mono fun _ _ ⟨he, hd⟩ => by
    obtain ⟨m, hm⟩ := hd.out
    exact ⟨he, n + m, by rw [hm, World.drewN_drewN, Nat.add_assoc]⟩

theorem still_tail_at {P : Program} {id : Nat} {Q : Exit → Act → World → Prop} {a : Act} {w : World} {l : List Oper} (n : Nat) (hm : P.follows .mixedOrders = true) (hB : Region.lexTailB .any l.toArray n = true)
    (h : ∀ W : World, W = w.drew → wpStill P l.toArray W (fun a' => wpList P l.toArray Q (l.drop n) a' W) (l.take n) a) : (Code.region id l.toArray true).wp P Q a w :=
  wp_region_still_tail n hm hB (h _ rfl)

set_option maxHeartbeats 4000000 in
set_option maxRecDepth 100000 in
theorem take_calls (g : Nat) (s : Sums) (A0 : Option Addr) (cap : Nat) (bs : List Int) (w0 w : World) (hI : IsWords w g 246 s.list) (hge : w0.heap.size ≤ g) (hr : Kd.C (Kd.int .u8) w A0 bs.length bs) (hc : bs.length ≤ cap) (hl : 64 ≤ bs.length) (hb : bs.length < 9223372036854775807)
    (hB : Below w0.heap.size w0 w) (hGS : GlobS w0) :
    Calls Tryd.prog 199 #[.pointer (some ⟨g, 0, none⟩), .slice A0 bs.length cap] w fun e w' => e = .returned (.tuple #[]) ∧ IsWords w' g 246 (s.take bs) ∧ Below w0.heap.size w0 w' ∧ KeepBut w w' g none := by
  have HLT := Aside0.mk (blk_lt hI)
  have HR := Aside0.mk hr
  have HI := Aside0.mk hI
  have HB := Aside0.mk hB
  have HGS := Aside0.mk hGS
  clear hr hI hB hGS
  go_enter Tryd.func199, Tryd.ntmps199
  go_wp2_with fail
  refine (scheduleOf_calls A0 cap bs w HR.out hc hl hb).mono ?_
  rintro e1 w1 ⟨rfl, hW1, hB1⟩
  have hI1 : IsWords w1 g 246 s.list := blk_below HI.out hB1
  obtain ⟨c0, c1, c2, c3, c4, c5, c6, c7⟩ := IsSums.cells hI1
  have HI1 := Aside0.mk hI1
  have HB1 := Aside0.mk hB1
  have HW1 := Aside0.mk hW1
  clear hW1 hI1 hB1
  go_wp2_with fail
  obtain ⟨gw, hgw⟩ : ∃ x, x = w.heap.size := ⟨_, rfl⟩
  obtain ⟨gs, hgs⟩ : ∃ x, x = w1.heap.size := ⟨_, rfl⟩
  rw [← hgw, ← hgs]
  have HGW := Aside0.mk hgw
  have HGSz := Aside0.mk hgs
  obtain ⟨ws, hws⟩ : ∃ x, x = schedule bs := ⟨_, rfl⟩
  have HWS := Aside0.mk hws
  clear hgw hgs hws c0 c1 c2 c3 c4 c5 c6 c7
  go_loopw [18] (fun v18 wr => ∃ k : Nat, k ≤ 64 ∧ v18 = .int .i64 k ∧ Aside0 (IsWords wr g 246 (Sums.rounds ws s k).list) ∧ Aside0 (IsWords wr gw 258 ws) ∧ Aside0 (IsWords wr gs 246 s.list) ∧ Aside0 (Below w0.heap.size w0 wr) ∧ Aside0 (KeepBut w wr g none)) (fun v18 _ => 64 - (intOf v18).toNat)
  case atStart =>
    refine ⟨0, by omega, rfl, ⟨blk_alloc HI1.out _⟩, ⟨?_⟩, ⟨?_⟩, ⟨below_alloc (below_then HB.out HB.out.size HB1.out) _⟩, ⟨?_⟩⟩
    · rw [HWS.out, HGW.out]
      exact blk_alloc HW1.out _
    · rw [HGSz.out]
      exact heap_alloc_new w1 _
    · exact ⟨by have := HB1.out.size; simp; omega, fun i hi _ _ => (Below.heap_alloc _ _ _ (by have := HB1.out.size; omega)).trans (HB1.out.block i hi)⟩
  case round =>
    obtain ⟨k, hk, rfl, HI, HW, HS, HB, HK⟩ := hrel
    by_cases hlt : k < 64
    · have hd : decide ((k : Int) < 64) = true := by simp; omega
      obtain ⟨S, hS⟩ : ∃ x, x = Sums.rounds ws s k := ⟨_, rfl⟩
      rw [← hS] at HI
      obtain ⟨c0, c1, c2, c3, c4, c5, c6, c7⟩ := IsSums.cells HI.out
      have f0 := HI.out.frozen 0
      have hws64 : ws.length = 64 := by rw [HWS.out]; exact sched2_length _ _ (sched1_length _ _)
      have cw := HW.out.cell k (by omega)
      have ca := (GlobS.of HGS.out HB.out).2 k hlt
      obtain ⟨wi, hwi⟩ : ∃ x, x = ws.getD k 0 := ⟨_, rfl⟩
      obtain ⟨ai, hai⟩ : ∃ x, x = shaAdded.getD k 0 := ⟨_, rfl⟩
      rw [← hwi] at cw
      rw [← hai] at ca
      have pk : 0 ≤ (k : Int) := by omega
      have qk : (k : Int) < 64 := by omega
      have G1 := Aside0.mk (sigma_some S.e 6 11 25)
      have G2 := Aside0.mk (sigma_some S.a 2 13 22)
      obtain ⟨y1, hy1⟩ : ∃ y, y = (sha_sigma.f S.e 6 11 25).getD 0 := ⟨_, rfl⟩
      obtain ⟨y2, hy2⟩ : ∃ y, y = (sha_sigma.f S.a 2 13 22).getD 0 := ⟨_, rfl⟩
      rw [← hy1] at G1
      rw [← hy2] at G2
      have HX := Aside0.mk (And.intro hS (And.intro hwi (And.intro hai (And.intro hy1 (And.intro hy2 hlt)))))
      clear hS hwi hai hy1 hy2 hws64 hlt
      go_wp2_with fail
      go_quiet (fail)
      go_wp2_with fail
      go_quiet ((go_at_call 215; (first | exact quiet_drawn2 (sha_sigma.calls S.e 6 11 25 y1 _ G1.out) | exact quiet_drawn (sha_sigma.calls S.e 6 11 25 y1 _ G1.out))))
      go_wp2_with fail
      go_quiet ((go_at_call 215; (first | exact quiet_drawn2 (sha_sigma.calls S.a 2 13 22 y2 _ G2.out) | exact quiet_drawn (sha_sigma.calls S.a 2 13 22 y2 _ G2.out))))
      go_wp2_with fail
      refine still_tail_at 30 (by kernel_rfl) (by kernel_rfl) (fun W hW => ?_)
      have HIW : IsWords W g 246 S.list := by rw [hW]; exact HI.out
      have HWW : Aside0 (IsWords W gw 258 ws) := ⟨by rw [hW]; exact HW.out⟩
      have HSW : Aside0 (IsWords W gs 246 s.list) := ⟨by rw [hW]; exact HS.out⟩
      have HBW : Aside0 (Below w0.heap.size w0 W) := ⟨by rw [hW]; exact below_drew1 (pw_below_drewN (pw_below_drewN (pw_below_drewN HB.out _) _) _)⟩
      have HKW : Aside0 (KeepBut w W g none) := ⟨by rw [hW]; exact HK.out⟩
      obtain ⟨c0, c1, c2, c3, c4, c5, c6, c7⟩ := IsSums.cells HIW
      have f0 := HIW.frozen 0
      have f1 := HIW.frozen 1
      have f2 := HIW.frozen 2
      have f3 := HIW.frozen 3
      have f4 := HIW.frozen 4
      have f5 := HIW.frozen 5
      have f6 := HIW.frozen 6
      have f7 := HIW.frozen 7
      have HIw := Aside0.mk HIW
      clear HIW hW HI HW HS HB HK cw ca
      simp only [List.take_succ_cons, List.take_zero, List.drop_succ_cons, List.drop_zero]
      repeat still_step
      refine wpStill_nil ?_
      go_wp2_with fail
      go_roundw
      case measure => simp [intOf]; have := HX.out.2.2.2.2.2; omega
      case rel =>
        refine ⟨k + 1, by have := HX.out.2.2.2.2.2; omega, by go_num, ⟨?_⟩, ⟨?_⟩, ⟨?_⟩, ⟨?_⟩, ⟨?_⟩⟩
        · have hX := HX.out
          have hp := put8_words HIw.out ((S.h + y1 + Go.bits .xor .u32 (Go.bits .and .u32 S.e (Go.bits .xor .u32 S.f S.g)) S.g + ai + wi + (y2 + Go.bits .or .u32 (Go.bits .and .u32 S.a (Go.bits .or .u32 S.b S.c)) (Go.bits .and .u32 S.b S.c))) % 4294967296) S.a S.b S.c ((S.d + (S.h + y1 + Go.bits .xor .u32 (Go.bits .and .u32 S.e (Go.bits .xor .u32 S.f S.g)) S.g + ai + wi)) % 4294967296) S.e S.f S.g
          have hq : (Sums.rounds ws s (k + 1)).list = [(S.h + y1 + Go.bits .xor .u32 (Go.bits .and .u32 S.e (Go.bits .xor .u32 S.f S.g)) S.g + ai + wi + (y2 + Go.bits .or .u32 (Go.bits .and .u32 S.a (Go.bits .or .u32 S.b S.c)) (Go.bits .and .u32 S.b S.c))) % 4294967296, S.a, S.b, S.c, (S.d + (S.h + y1 + Go.bits .xor .u32 (Go.bits .and .u32 S.e (Go.bits .xor .u32 S.f S.g)) S.g + ai + wi)) % 4294967296, S.e, S.f, S.g] := by
            simp only [Sums.rounds]
            rw [← hX.1, ← hX.2.1, ← hX.2.2.1]
            simp only [Sums.round, Sums.list]
            rw [← hX.2.2.2.1, ← hX.2.2.2.2.1]
            generalize Go.bits .xor .u32 (Go.bits .and .u32 S.e (Go.bits .xor .u32 S.f S.g)) S.g = X
            generalize Go.bits .or .u32 (Go.bits .and .u32 S.a (Go.bits .or .u32 S.b S.c)) (Go.bits .and .u32 S.b S.c) = Y
            have q1 : ((S.h + y1 + X + ai + wi) % 4294967296 + (y2 + Y) % 4294967296) % 4294967296 = (S.h + y1 + X + ai + wi + (y2 + Y)) % 4294967296 := by omega
            have q2 : (S.d + (S.h + y1 + X + ai + wi) % 4294967296) % 4294967296 = (S.d + (S.h + y1 + X + ai + wi)) % 4294967296 := by omega
            rw [q1, q2]
          rw [hq]
          exact hp
        · exact put8_far HWW.out (by rw [HGW.out]; have := HLT.out; omega) _ _ _ _ _ _ _ _
        · exact put8_far HSW.out (by rw [HGSz.out]; have := HLT.out; have := HB1.out.size; omega) _ _ _ _ _ _ _ _
        · exact put8_below HBW.out hge _ _ _ _ _ _ _ _
        · exact put8_keep HKW.out _ _ _ _ _ _ _ _
    · have hd : decide ((k : Int) < 64) = false := by simp; omega
      have hk64 : k = 64 := by omega
      rw [hk64] at HI
      obtain ⟨S, hS⟩ : ∃ x, x = Sums.rounds ws s 64 := ⟨_, rfl⟩
      rw [← hS] at HI
      obtain ⟨c0, c1, c2, c3, c4, c5, c6, c7⟩ := IsSums.cells HS.out
      have HX := Aside0.mk hS
      clear hS hk64 hk hlt HW
      go_wp2_with fail
      clear c0 c1 c2 c3 c4 c5 c6 c7 hd HS
      go_loopw [119] (fun v119 wr => ∃ k : Nat, k ≤ 8 ∧ v119 = .int .i64 k ∧ Aside0 (IsWords wr g 246 (addW S.list s.list k)) ∧ Aside0 (Below w0.heap.size w0 wr) ∧ Aside0 (KeepBut w wr g none)) (fun v119 _ => 8 - (intOf v119).toNat)
      case atStart => exact ⟨0, by omega, rfl, HI, HB, HK⟩
      case round =>
        clear HI HB HK
        obtain ⟨k, hk, rfl, HI, HB, HK⟩ := hrel
        by_cases hlt : k < 8
        · have hd : decide ((k : Int) < 8) = true := by simp; omega
          have hix := sums_index s k hlt
          have pk : 0 ≤ (k : Int) := by omega
          have qk : (k : Int) < 8 := by omega
          obtain ⟨y, hy⟩ : ∃ y, y = s.list.getD k 0 := ⟨_, rfl⟩
          obtain ⟨x, hx⟩ : ∃ x, x = (addW S.list s.list k).getD k 0 := ⟨_, rfl⟩
          have hc := HI.out.cell k (by rw [addW_length]; exact hlt)
          have hf := HI.out.frozen k
          rw [← hx] at hc
          rw [← hy] at hix
          have HXY := Aside0.mk (And.intro hx (And.intro hy hlt))
          clear hx hy hlt
          go_wp2_with fail
          refine still_tail_at 9 (by kernel_rfl) (by kernel_rfl) (fun W hW => ?_)
          have hcW : W.cell? ⟨g, k, none⟩ = some (.int .u32 x) := by rw [hW]; exact hc
          have hfW : W.frozen? ⟨g, k, none⟩ = false := by rw [hW]; exact hf
          have HIW : Aside0 (IsWords W g 246 (addW S.list s.list k)) := ⟨by rw [hW]; exact HI.out⟩
          have HBW : Aside0 (Below w0.heap.size w0 W) := ⟨by rw [hW]; exact below_drew1 HB.out⟩
          have HKW : Aside0 (KeepBut w W g none) := ⟨by rw [hW]; exact HK.out⟩
          clear hW HI HB HK hc hf
          simp only [List.take_succ_cons, List.take_zero, List.drop_succ_cons, List.drop_zero]
          repeat still_step
          refine wpStill_nil ?_
          go_wp2_with fail
          go_roundw
          case measure => simp [intOf]; have := HXY.out.2.2; omega
          case rel =>
            refine ⟨k + 1, by have := HXY.out.2.2; omega, by go_num, ⟨?_⟩, ⟨HBW.out.setCell hge _⟩, ⟨HKW.out.set_ _ _⟩⟩
            simp only [addW]
            rw [← HXY.out.1, ← HXY.out.2.1]
            exact HIW.out.set k _
        · have hd : decide ((k : Int) < 8) = false := by simp; omega
          have hk8 : k = 8 := by omega
          rw [hk8] at HI
          clear hk8 hk hlt
          go_wp2_with fail
          go_end0
          refine ⟨rfl, ?_, HB.out, HK.out⟩
          unfold Sums.take
          rw [← HWS.out, ← HX.out]
          exact HI.out

end Go.Proofs.YtbedgjjiinhpkaaDoor.P

-- ArenaB
set_option linter.unusedVariables false
set_option linter.unusedSimpArgs false
namespace Go.Proofs.YtbedgjjiinhpkaaDoor.P
open Go.RowKit Go.Proofs.YtbedgjjiinhpkaaDoorW.PrintWords Go.Proofs.YtbedgjjiinhpkaaDoorW.PrintLast Go.Proofs.YtbedgjjiinhpkaaDoorW.PrintMore

set_option maxRecDepth 100000 in
theorem new_calls (size room : Int) (w : World) (h1 : 1 ≤ size) (h2 : size ≤ 32) (h3 : 1 ≤ room) (h4 : room ≤ 4194304) :
    Calls Tryd.prog 47 #[.int .i64 size, .int .i64 room] w fun e w' => e = .returned (.tuple #[.pointer (some ⟨w.heap.size, 0, none⟩), .int .i64 0]) ∧ ABlk w' w.heap.size size room (.slice none 0 0) (.slice none 0 0) ∧ Below w.heap.size w w' := by
  have d1 : decide (size < 1) = false := decide_eq_false (by omega)
  have d2 : decide (32 < size) = false := decide_eq_false (by omega)
  have d3 : decide (room < 1) = false := decide_eq_false (by omega)
  have d4 : decide (4194304 < room) = false := decide_eq_false (by omega)
  clear h1 h2 h3 h4
  go_enter Tryd.func47, Tryd.ntmps47
  go_wp2_with fail
  go_ret2
  exact ⟨rfl, heap_alloc_new w _, below_alloc (Below.refl _ _) _⟩

/-- A place's cells, none used. -/
def cell0 : List Value := [.bool false, .bool false, .slice none 0 0, .slice none 0 0, .int .i64 0, .int .i64 0, .slice none 0 0, .int .i64 0, .int .i64 0, .int .i64 0, .slice none 0 0]
theorem infoCell : (Tryd.prog.info? 138).map (fun i => (i.zero, i.size, i.bytes)) = some (some (.agg #[.bool false, .bool false, .slice none 0 0, .slice none 0 0, .int .i64 0, .int .i64 0, .slice none 0 0, .int .i64 0, .int .i64 0, .int .i64 0, .slice none 0 0]), 11, 152) := by kernel_rfl
abbrev CellsR (w : World) (base : Nat) (v : Value) (cs : List (List Value)) : Prop := Kd.R (Kd.raw 11) 138 w base (fun _ => True) v cs

theorem ABlk.grown {w w1 : World} {p base : Nat} {size room : Int} {vc vf : Value} {cs : List (List Value)} (h : ABlk w p size room vc vf) (hR : CellsR w base vc cs) (hg : w.grownBy w1 vc.ownBlock) : ABlk w1 p size room vc vf :=
  (hg.block p h.lt (Kd.R_ne hR h (by decide))).trans h
theorem ABlk.set2 {w : World} {p : Nat} {size room : Int} {vc vf : Value} (h : ABlk w p size room vc vf) (v : Value) : ABlk (w.setCell ⟨p, 2, none⟩ v) p size room v vf := by
  have := blk_set h 2 v
  exact this
theorem ABlk.set3 {w : World} {p : Nat} {size room : Int} {vc vf : Value} (h : ABlk w p size room vc vf) (v : Value) : ABlk (w.setCell ⟨p, 3, none⟩ v) p size room vc v := by
  have := blk_set h 3 v
  exact this

set_option maxHeartbeats 4000000 in
set_option maxRecDepth 100000 in
theorem put_grow {w : World} {p base : Nat} {size room : Int} {vc : Value} {A' : Option Addr} {c' : Nat} {cs : List (List Value)} (lf : Bool) (A1 A2 A5 A9 : Option Addr) (n1 n2 n5 n9 c1 c2 c5 c9 : Nat) (x3 x4 x6 x7 x8 : Int)
    (h : ABlk w p size room vc (.slice A' 0 c')) (hR : CellsR w base vc cs) (hs : size ≠ 0) (hb : base ≤ p) (hr : (cs.length : Int) < room) (hr1 : room ≤ 4194304) :
    Calls Tryd.prog 97 #[.pointer (some ⟨p, 0, none⟩), .agg #[.bool lf, .slice A1 n1 c1, .slice A2 n2 c2, .int .i64 x3, .int .i64 x4, .slice A5 n5 c5, .int .i64 x6, .int .i64 x7, .int .i64 x8, .slice A9 n9 c9]] w
      fun e w' => e = .returned (.tuple #[.int .i64 (cs.length : Int), .int .i64 0]) ∧ ∃ v1, ABlk w' p size room v1 (.slice A' 0 c') ∧ CellsR w' base v1 (cs ++ [[.bool true, .bool lf, .slice A1 n1 c1, .slice A2 n2 c2, .int .i64 x3, .int .i64 x4, .slice A5 n5 c5, .int .i64 x6, .int .i64 x7, .int .i64 x8, .slice A9 n9 c9]]) ∧
        (v1.ownBlock = vc.ownBlock ∨ ∃ b, v1.ownBlock = some b ∧ w.heap.size ≤ b) ∧ KeepBut w w' p vc.ownBlock ∧ (base ≤ w.heap.size → Below base w w') := by
  obtain ⟨A, c, rfl⟩ := Kd.R_slice hR
  have HBk := Aside0.mk h
  have HR := Aside0.mk hR
  have HS := Aside0.mk hs
  have HBP := Aside0.mk hb
  obtain ⟨u, hu⟩ : ∃ u, u = room - ((cs.length : Int) - ((0 : Nat) : Int)) := ⟨_, rfl⟩
  have hu0 : (u == 0) = false := by simp; omega
  obtain ⟨b0, hb0⟩ : ∃ b, b = w.heap.size := ⟨_, rfl⟩
  have HRL := Aside0.mk hr
  have HRM := Aside0.mk hr1
  have HU := Aside0.mk hu
  have HB0 := Aside0.mk hb0
  clear h hR hs hb hr hr1 hu
  go_enter Tryd.func97, Tryd.ntmps97
  go_wp2_with fail
  refine (room_calls (A := A) (n := cs.length) (c := c) (HBk.out.below (below_alloc (Below.refl _ _) _)) HS.out (by have := HRL.out; have := HRM.out; omega) (by omega) (by have := HRL.out; omega) (by have := HRM.out; omega)).mono ?_
  rw [← HU.out]
  rintro e w' ⟨rfl, ⟨m, rfl⟩⟩
  obtain ⟨W1, hW1⟩ : ∃ W1, W1 = (w.alloc (.cells #[.bool lf, .slice A1 n1 c1, .slice A2 n2 c2, .int .i64 x3, .int .i64 x4, .slice A5 n5 c5, .int .i64 x6, .int .i64 x7, .int .i64 x8, .slice A9 n9 c9] 61)).drewN m := ⟨_, rfl⟩
  rw [← hW1]
  have hB1 : Below w.heap.size w W1 := by rw [hW1]; exact pw_below_drewN (below_alloc (Below.refl _ _) _) _
  have hN1 : W1.heap[w.heap.size]? = some (.cells #[.bool lf, .slice A1 n1 c1, .slice A2 n2 c2, .int .i64 x3, .int .i64 x4, .slice A5 n5 c5, .int .i64 x6, .int .i64 x7, .int .i64 x8, .slice A9 n9 c9] 61 (0, 0)) := by rw [hW1]; exact heap_alloc_new w _
  have HN1 := Aside0.mk hN1
  have HB1 := Aside0.mk hB1
  have HR1 := Aside0.mk (Kd.R_below HR.out hB1)
  have HBk1 := Aside0.mk (HBk.out.below hB1)
  clear hN1 hB1 hW1
  obtain ⟨k0, k1, k2, k3⟩ := HBk1.out.cells
  go_wp2_with fail
  refine (len_calls A' 0 c' _).mono ?_
  rintro e w' ⟨rfl, rfl⟩
  have hbs : base ≤ W1.heap.size := by have := HBP.out; have := HBk1.out.lt; omega
  have HBS := Aside0.mk hbs
  clear hbs
  go_wp2_with (first | ((with_reducible refine gate_builtin (b := .append) (xs := #[.tmp 31, .tmp 33]) rfl ?_); go_must (at_builtin; refine Kd.R_append (Kd.raw 11) (w0 := W1) base rfl (.tmp 31) (.tmp 33) 51 138 (.agg #[.bool false, .bool false, .slice none 0 0, .slice none 0 0, .int .i64 0, .int .i64 0, .slice none 0 0, .int .i64 0, .int .i64 0, .int .i64 0, .slice none 0 0]) 152 rfl Tryd.underlying51 infoCell rfl (by decide) (by omega) (.slice A cs.length c) cs cell0 cell0 (fun _ => True) (fun _ => False) rfl rfl ?aP (fun _ h => h.elim) ?aF ?aO ?aB ?aS ?aL ?_; (case aP => exact ⟨rfl, rfl, by decide⟩); (case aF => exact (fun _ _ => trivial)); (case aO => exact HR1.out); (case aB => exact Below.refl _ _); (case aS => exact HBS.out); (case aL => have := HRL.out; have := HRM.out; omega); intro v2 w2 ho hb2 hg hat; obtain ⟨Av, cv, rfl⟩ := Kd.R_slice ho; have HO2 := Aside0.mk ho; have HG2 := Aside0.mk hg; have HAT := Aside0.mk hat; have HB2 := Aside0.mk hb2; have HBk2 := Aside0.mk (HBk1.out.grown HR1.out hg); clear ho hb2 hg hat k0 k1 k2 k3; obtain ⟨k0, k1, k2, k3⟩ := HBk2.out.cells; have kf := blk_frozen HBk2.out 2)))
  rw [List.length_append, show cell0 :: [] = [cell0] from rfl] at HO2
  have hO3 := Kd.R_set HO2.out HBk2.out (by decide) 2 (.slice Av (cs.length + 1) cv)
  have hBk3 := HBk2.out.set2 (.slice Av (cs.length + 1) cv)
  have hpw : p < w.heap.size := HBk.out.lt
  have hN2 := (HG2.out.block w.heap.size (by have := HB1.out.size; exact blk_lt HN1.out) (Kd.R_ne HR1.out HN1.out (by decide))).trans HN1.out
  have hN3 := blk_far hN2 (p := ⟨p, 2, none⟩) (by show w.heap.size ≠ p; omega) (.slice Av (cs.length + 1) cv)
  obtain ⟨W3, hW3⟩ : ∃ W3, W3 = w2.setCell ⟨p, 2, none⟩ (.slice Av (cs.length + 1) cv) := ⟨_, rfl⟩
  rw [← hW3] at hO3 hBk3 hN3
  rw [← hW3]
  have HW3 := Aside0.mk hW3
  have HO3 := Aside0.mk hO3
  have HBk3 := Aside0.mk hBk3
  have HN3 := Aside0.mk hN3
  clear hO3 hBk3 hN3 hW3 hN2 hpw k0 k1 k2 k3 kf
  have hO := HO3.out
  have hrd := Kd.R_reads' hO
  have hn1 : (cs ++ [cell0]).length = cs.length + 1 := by simp
  obtain ⟨ad, cc, rfl, hcl, hcK, hcc⟩ := Kd.C_get hrd.2.2 ([] : List Value) (cs.length : Int) (by omega) (by rw [hn1]; omega)
  obtain ⟨g, rfl⟩ := Kd.R_head hO
  have hcc0 : cc = cell0 := by
    have := hcK.1
    rw [this, Int.toNat_natCast]
    simp
  obtain rfl := hcc0
  have HCC := Aside0.mk hcc
  have q1 : (cs.length : Int) < (cs.length : Int) + 1 := by omega
  have q2 : 0 ≤ (cs.length : Int) := by omega
  clear hn1 hO hrd hcl hcK hcc
  refine still_tail_at 8 (by kernel_rfl) (by kernel_rfl) (fun W hW => ?_)
  replace HBk3 : Aside0 (ABlk W p size room (.slice (some ⟨g, 0, none⟩) (cs.length + 1) cv) (.slice A' 0 c')) := ⟨by rw [hW]; exact HBk3.out⟩
  replace HN3 : Aside0 (W.heap[w.heap.size]? = some (.cells #[.bool lf, .slice A1 n1 c1, .slice A2 n2 c2, .int .i64 x3, .int .i64 x4, .slice A5 n5 c5, .int .i64 x6, .int .i64 x7, .int .i64 x8, .slice A9 n9 c9] 61 (0, 0))) := ⟨by rw [hW]; exact HN3.out⟩
  replace HO3 : Aside0 (CellsR W base (.slice (some ⟨g, 0, none⟩) (cs.length + 1) cv) (cs ++ [cell0])) := ⟨by rw [hW]; exact Kd.R_below HO3.out (below_drew (Below.refl _ _))⟩
  replace HCC : Aside0 (∀ j u, cell0[j]? = some u → W.cell? ⟨g, (cs.length : Int).toNat * 11 + j, none⟩ = some u) := ⟨by rw [hW]; intro j u hj; have := HCC.out j u hj; rwa [add_plain] at this⟩
  have HW := Aside0.mk hW
  clear hW
  obtain ⟨k0, k1, k2, k3⟩ := HBk3.out.cells
  have m0 := blk_cell HN3.out 0
  have m1 := blk_cell HN3.out 1
  have m2 := blk_cell HN3.out 2
  have m3 := blk_cell HN3.out 3
  have m4 := blk_cell HN3.out 4
  have m5 := blk_cell HN3.out 5
  have m6 := blk_cell HN3.out 6
  have m7 := blk_cell HN3.out 7
  have m8 := blk_cell HN3.out 8
  have m9 := blk_cell HN3.out 9
  simp only [List.take_succ_cons, List.take_zero, List.drop_succ_cons, List.drop_zero]
  repeat still_step
  refine wpStill_nil ?_
  clear k0 k1 k2 k3 m0 m1 m2 m3 m4 m5 m6 m7 m8 m9 q1 q2
  refine Kd.R_store (Kd.raw 11) (w0 := W) base rfl rfl 138 (.tmp 44) (.tmp 43) rfl 138 (g := g) (n := cs.length + 1) (cap := cv) (o' := cs.length * 11) (cs.length : Int) 0 (cs ++ [cell0]) [.bool true, .bool lf, .slice A1 n1 c1, .slice A2 n2 c2, .int .i64 x3, .int .i64 x4, .slice A5 n5 c5, .int .i64 x6, .int .i64 x7, .int .i64 x8, .slice A9 n9 c9] (.agg #[.bool true, .bool lf, .slice A1 n1 c1, .slice A2 n2 c2, .int .i64 x3, .int .i64 x4, .slice A5 n5 c5, .int .i64 x6, .int .i64 x7, .int .i64 x8, .slice A9 n9 c9]) [.bool true, .bool lf, .slice A1 n1 c1, .slice A2 n2 c2, .int .i64 x3, .int .i64 x4, .slice A5 n5 c5, .int .i64 x6, .int .i64 x7, .int .i64 x8, .slice A9 n9 c9] cell0 (fun _ => True) (fun _ => False) rfl rfl rfl rfl (by kernel_rfl) (by intro q hq; simp only [List.mem_cons, List.not_mem_nil, or_false] at hq; rcases hq with rfl | rfl | rfl | rfl | rfl | rfl | rfl | rfl | rfl | rfl | rfl <;> rfl) HO3.out (by omega) (by omega) rfl HCC.out (Nat.le_refl 11) ⟨rfl, rfl, by intro q hq; simp only [cell0, List.take_zero, List.nil_append, List.cons_append, List.mem_cons, List.not_mem_nil, or_false, List.drop_succ_cons, List.drop_zero, List.append_nil, Nat.zero_add, List.length_cons, List.length_nil, List.drop_nil] at hq; rcases hq with rfl | rfl | rfl | rfl | rfl | rfl | rfl | rfl | rfl | rfl | rfl <;> rfl⟩ (fun _ h => h.elim) (Below.refl _ _) ?_
  intro w4 hO4 hB4 hG4
  have HO4 := Aside0.mk hO4
  have HB4 := Aside0.mk hB4
  have HG4 := Aside0.mk hG4
  clear hO4 hB4 hG4
  go_wp2_with fail
  go_ret2
  have hgb : base ≤ g := Kd.R_base HO3.out g (by simp [Value.ownBlock])
  have hgp : some p ≠ some g := by
    have := Kd.R_ne HO3.out HBk3.out (by decide)
    simpa [Value.ownBlock] using this
  have hBk4 : ABlk w4 p size room (.slice (some ⟨g, 0, none⟩) (cs.length + 1) cv) (.slice A' 0 c') := (HG4.out.block p HBk3.out.lt hgp).trans HBk3.out
  have hrow := HO4.out
  rw [Int.toNat_natCast, List.set_append_right _ _ (Nat.le_refl _), Nat.sub_self] at hrow
  have s1 := HB1.out.size
  have hat : (Value.slice (some ⟨g, 0, none⟩) (cs.length + 1) cv).ownBlock = (Value.slice A cs.length c).ownBlock ∨ ∃ b, (Value.slice (some ⟨g, 0, none⟩) (cs.length + 1) cv).ownBlock = some b ∧ w.heap.size ≤ b := by
    rcases HAT.out with h | ⟨b, h, hle⟩
    · exact .inl h
    · exact .inr ⟨b, h, by omega⟩
  have hW3 : Below base W1 W := by
    rw [HW.out]
    have h3 : Below base W1 W3 := by rw [HW3.out]; exact HB2.out.setCell (by show base ≤ p; exact HBP.out) _
    exact below_drew1 h3
  refine ⟨rfl, _, hBk4, hrow, hat, ⟨?_, ?_⟩, fun hbw => ((HB1.out.mono hbw).trans hW3).trans HB4.out⟩
  · have := hW3.size
    have := HB4.out.size
    omega
  · intro i hi hip hio
    have e1 : w4.heap[i]? = W.heap[i]? := by
      refine HG4.out.block i ?_ ?_
      · have := hW3.size
        omega
      · rcases HAT.out with h | ⟨b, h, hle⟩
        · rw [← h] at hio
          exact hio
        · intro he
          have : some i = some b := he.trans h
          injection this with this
          omega
    have e2 : W.heap[i]? = w2.heap[i]? := by
      rw [HW.out]
      show W3.heap[i]? = _
      rw [HW3.out]
      exact Below.heap_setCell w2 ⟨p, 2, none⟩ _ i hip
    exact e1.trans (e2.trans ((HG2.out.block i (by omega) hio).trans (HB1.out.block i hi)))

end Go.Proofs.YtbedgjjiinhpkaaDoor.P

-- TextA
set_option linter.unusedVariables false
set_option linter.unusedSimpArgs false
namespace Go.Proofs.YtbedgjjiinhpkaaDoor.P
open Go.RowKit Go.Proofs.YtbedgjjiinhpkaaDoorW.PrintWords Go.Proofs.YtbedgjjiinhpkaaDoorW.PrintLast Go.Proofs.YtbedgjjiinhpkaaDoorW.PrintMore

def rd_bb (xs : List (List Int)) (i : Int) : List Int := xs.getD i.toNat []
theorem at_bb {w : World} {A : Option Addr} {n : Nat} {xs : List (List Int)} (h : Kd.C (Kd.slice 5 (Kd.int .u8)) w A n xs) (i : Int) (h0 : 0 ≤ i) (h1 : i < n) : ∃ ad A0 c0, A = some ad ∧ w.cell? (ad.add i.toNat) = some (.slice A0 (rd_bb xs i).length c0) ∧ (rd_bb xs i).length ≤ c0 ∧ (Kd.int .u8).C w A0 (rd_bb xs i).length (rd_bb xs i) := by
  obtain ⟨ad, c, e, _, hK, hc0⟩ := Kd.C_get h ([] : List Int) i h0 h1
  have hc : ∀ j u, c[j]? = some u → w.cell? (ad.add (i.toNat * 1 + j)) = some u := hc0
  obtain ⟨A0, c0, rfl, l0, g0⟩ := hK
  exact ⟨ad, A0, c0, e, by have hq := hc 0 _ rfl; rwa [Nat.mul_one, Nat.add_zero] at hq, l0, g0⟩

theorem long_calls (A : Option Addr) (n c : Nat) (w : World) :
    Calls Tryd.prog 184 #[.slice A n c] w fun e w' => e = .returned (.bool (decide (65535 < (n : Int)))) ∧ w' = w := by
  go_enter Tryd.func184, Tryd.ntmps184
  go_wp2_with fail
  go_ret
  exact ⟨rfl, rfl⟩

def isLong (p : List Int) : Bool := decide (65535 < (p.length : Int))

set_option maxHeartbeats 1000000 in
set_option maxRecDepth 100000 in
theorem index_long (A0 : Option Addr) (c0 : Nat) (l0 : List (List Int)) (w : World) (hr0 : Kd.C (Kd.slice 5 (Kd.int .u8)) w A0 l0.length l0) (hb : (l0.length : Int) ≤ 9223372036854775807) :
    Calls Tryd.prog 198 #[.slice A0 l0.length c0, .func (.func 184) #[] #[]] w fun e w' => ∃ i : Int, e = .returned (.int .i64 i) ∧ decide (0 ≤ i) = l0.any isLong ∧ w' = w := by
  have HR := Aside0.mk hr0
  clear hr0
  go_enter Tryd.func198, Tryd.ntmps198
  go_wp2_with fail
  go_loopw [8] (fun v8 wr => ∃ k : Nat, k ≤ l0.length ∧ v8 = .int .i64 (k : Int) ∧ wr = w ∧ Aside0 (l0.any isLong = (l0.drop k).any isLong)) (fun v8 _ => l0.length - (intOf v8).toNat)
  case atStart => exact ⟨0, by omega, rfl, rfl, ⟨by rw [List.drop_zero]⟩⟩
  case round =>
    obtain ⟨k, hk, rfl, rfl, HA⟩ := hrel
    by_cases hlt : k < l0.length
    · have hd : decide ((k : Int) < (l0.length : Int)) = true := by simp; omega
      obtain ⟨ad, A1, c1, rfl, hx, hc, hi⟩ := at_bb HR.out (k : Int) (by omega) (by omega)
      rw [Int.toNat_natCast] at hx
      have hdr : l0.drop k = rd_bb l0 k :: l0.drop (k + 1) := by
        rw [List.drop_eq_getElem_cons hlt]
        unfold rd_bb
        rw [List.getD_eq_getElem?_getD, Int.toNat_natCast, List.getElem?_eq_getElem hlt]
        rfl
      have HDR := Aside0.mk hdr
      clear hdr hi hc
      by_cases hL : 65535 < ((rd_bb l0 k).length : Int)
      · have hdL : decide (65535 < ((rd_bb l0 k).length : Int)) = true := decide_eq_true hL
        have HLL := Aside0.mk hL
        clear hL
        go_wp2_with fail
        refine (long_calls A1 _ c1 _).mono ?_
        rintro e1 w1 ⟨rfl, rfl⟩
        rw [hdL]
        go_wp2_with fail
        go_ret
        have hany : l0.any isLong = true := by rw [HA.out, HDR.out, List.any_cons, show isLong (rd_bb l0 k) = true from hdL]; rfl
        exact ⟨_, rfl, by rw [hany]; simp, rfl⟩
      · have hdL : decide (65535 < ((rd_bb l0 k).length : Int)) = false := decide_eq_false hL
        have HLL := Aside0.mk hL
        clear hL
        go_wp2_with fail
        refine (long_calls A1 _ c1 _).mono ?_
        rintro e1 w1 ⟨rfl, rfl⟩
        rw [hdL]
        go_wp2_with fail
        have hany : l0.any isLong = (l0.drop (k + 1)).any isLong := by rw [HA.out, HDR.out, List.any_cons, show isLong (rd_bb l0 k) = false from hdL]; rfl
        exact ⟨⟨k + 1, by omega, by go_num, trivial, ⟨hany⟩⟩, by simp only [intOf]; omega⟩
    · obtain rfl : k = l0.length := by omega
      have hd : decide ((l0.length : Int) < (l0.length : Int)) = false := by simp
      go_wp2_with fail
      go_ret
      exact ⟨_, rfl, by rw [HA.out, List.drop_length]; rfl, rfl⟩

/-- What slices.ContainsFunc answers of parts and texts.Text's own function (its number is a1). -/
def slices_ContainsFunc_byte_byte.f (l0 : List (List Int)) (a1 : Int) : Option Bool := some (l0.any isLong)

set_option maxRecDepth 100000 in
theorem slices_ContainsFunc_byte_byte.calls (A0 : Option Addr) (c0 : Nat) (l0 : List (List Int)) (a1 : Int) (r : Bool) (w : World) (hr0 : Kd.C (Kd.slice 5 (Kd.int .u8)) w A0 l0.length l0) (hc0 : l0.length ≤ c0) (h : slices_ContainsFunc_byte_byte.f l0 a1 = some r) :
    Calls Tryd.prog 185 #[.slice A0 l0.length c0, .func (.func 184) #[] #[]] w fun e w' => e = .returned (.bool r) ∧ Drawn0 w w' := by
  obtain rfl := Option.some.inj h
  have hb : (l0.length : Int) ≤ 9223372036854775807 := by have := hr0.2.1; omega
  go_enter Tryd.func185, Tryd.ntmps185
  go_wp2_with fail
  refine (index_long A0 c0 l0 w hr0 hb).mono ?_
  rintro e1 w1 ⟨i, rfl, hi, rfl⟩
  go_wp2_with fail
  go_ret
  exact ⟨by rw [← hi]; rfl, ⟨0, rfl⟩⟩

end Go.Proofs.YtbedgjjiinhpkaaDoor.P

-- FtextsText
namespace Go.Proofs.YtbedgjjiinhpkaaDoor.P
open Go.RowKit Go.Proofs.YtbedgjjiinhpkaaDoorW.PrintWords Go.Proofs.YtbedgjjiinhpkaaDoorW.PrintLast Go.Proofs.YtbedgjjiinhpkaaDoorW.PrintMore
attribute [local go_sem] max2_int min2_int max_two min_two max_three min_three max_four min_four   -- for this text's walks alone
set_option linter.unusedVariables false
set_option linter.unusedSimpArgs false

/-! ### texts_Text: function 150 -/
def texts_Text.l0 : Nat → List Int → List (List Int) → Int → Int → Option (List Int × Int)
  | 0, _, _, _, _ => none
  | k + 1, x7, x22, x23, x24 => if x24 < x23 then (if 0 ≤ x24 then (if x24 < (x22.length : Int) then ((some (([(((rd_L1 x22 x24).length : Int) / 256) % 256, (((rd_L1 x22 x24).length : Int)) % 256] : List Int) : List Int)).bind fun y106 => (if x7.length + y106.length < 140737488355328 then ((some (x7 ++ y106 : List Int)).bind fun y109 => (if y109.length + (rd_L1 x22 x24).length < 140737488355328 then (texts_Text.l0 k (y109 ++ (rd_L1 x22 x24)) x22 x23 (wrap64 (x24 + 1))) else (none))) else (none))) else (none)) else (none)) else (some (x7, 0))
def texts_Text.f (k : Nat) (a0 : Int) (l1 : List (List Int)) : Option (List Int × Int) := if a0 = ((a0) % 256) then ((slices_ContainsFunc_byte_byte.f l1 184).bind fun t101 => (if t101 = true then (some (([] : List Int), 4)) else (texts_Text.l0 k (([(a0) % 256] : List Int)) l1 (l1.length : Int) 0))) else (some (([] : List Int), 1))
theorem texts_Text.mono_l : ∀ k, (∀ y0 y1 y2 y3, LeO (texts_Text.l0 k y0 y1 y2 y3) (texts_Text.l0 (k + 1) y0 y1 y2 y3))
  | 0 => fun _ _ _ _ r h => by simp [texts_Text.l0] at h
  | k + 1 => by
    have ih0 := texts_Text.mono_l k
    · intro y0 y1 y2 y3
      unfold texts_Text.l0
      repeat' first
      | (with_reducible exact ih0 _ _ _ _)
      | (with_reducible exact LeO.refl _)
      | (with_reducible exact LeO.none _)
      | (with_reducible refine LeO.ite ?_ ?_)
      | (with_reducible refine LeO.bind ?_ (fun _ => ?_))
      | exact ih0 _ _ _ _
      | exact LeO.none _
      | refine LeO.ite ?_ ?_
      | refine LeO.bind ?_ (fun _ => ?_)
theorem texts_Text.mono : ∀ a0 a1 k, LeO (texts_Text.f k a0 a1) (texts_Text.f (k + 1) a0 a1) := by
  intro a0 a1 k
  have ih0 := texts_Text.mono_l k
  unfold texts_Text.f
  repeat' first
      | (with_reducible exact ih0 _ _ _ _)
      | (with_reducible exact LeO.refl _)
      | (with_reducible exact LeO.none _)
      | (with_reducible refine LeO.ite ?_ ?_)
      | (with_reducible refine LeO.bind ?_ (fun _ => ?_))
      | exact ih0 _ _ _ _
      | exact LeO.none _
      | refine LeO.ite ?_ ?_
      | refine LeO.bind ?_ (fun _ => ?_)
set_option maxHeartbeats 8000000 in
set_option maxRecDepth 100000 in
theorem texts_Text.calls (k : Nat) (a0 : Int) (A1 : Option Addr) (c1 : Nat) (l1 : List (List Int)) (r1 : List Int) (r2 : Int) (w : World) (hr1 : Kd.C (Kd.slice 5 (Kd.int .u8)) w A1 l1.length l1) (hc1 : l1.length ≤ c1) (h : texts_Text.f k a0 l1 = some (r1, r2)) :
    Calls Tryd.prog 150 #[.int .i64 a0, .slice A1 l1.length c1] w fun e w' => ∃ v0_ : Value, e = .returned (.tuple #[v0_, .int .i64 r2]) ∧ Kd.R (Kd.int .u8) 5 w' w.heap.size (fun _ => True) v0_ r1 ∧ Below w.heap.size w w' := by
  have HR1 := Aside0.mk hr1
  have HC1 := Aside0.mk hc1
  clear hr1 hc1
  have HB := Aside0.mk (Below.refl w.heap.size w)
  have H : (if a0 = ((a0) % 256) then ((slices_ContainsFunc_byte_byte.f l1 184).bind fun t101 => (if t101 = true then (some (([] : List Int), 4)) else (texts_Text.l0 k (([(a0) % 256] : List Int)) l1 (l1.length : Int) 0))) else (some (([] : List Int), 1))) = some (r1, r2) := h
  clear h
  by_cases c3 : a0 = ((a0) % 256)
  · rw [if_pos c3] at H
    have c3b0 : (a0 == ((a0) % 256)) = true := beq_iff_eq.mpr c3
    have c3b1 : (a0 != ((a0) % 256)) = false := bne_eq_false_iff_eq.mpr c3
    clear c3
    replace H := Option.bind_eq_some_iff.mp H
    obtain ⟨t101, A40, H⟩ := H
    replace H : (if t101 = true then (some (([] : List Int), 4)) else (texts_Text.l0 k (([(a0) % 256] : List Int)) l1 (l1.length : Int) 0)) = some (r1, r2) := H
    have A4 := Aside0.mk A40
    clear A40
    by_cases c5 : t101 = true
    · subst c5
      have H1 : (some (([] : List Int), 4)) = some (r1, r2) := by rw [if_pos rfl] at H; exact H
      clear H
      have H := H1
      clear H1
      simp only [Option.some.injEq, Prod.mk.injEq] at H
      obtain ⟨rfl, rfl⟩ := H
      go_enter Tryd.func150, Tryd.ntmps150
      go_wp2_with (first | ((with_reducible refine gate_callee (f := 185) rfl ?_); refine goesL_ (some 18) rfl rfl Tryd.func185 (by kernel_rfl) rfl #[.slice A1 l1.length c1, .func (.func 184) #[] #[]] rfl (by (try simp only [List.map_toArray, List.map_cons, List.map_nil]); first | done | rfl | (simp only [List.length_drop, List.length_take]; rfl)) ?_; (with_reducible refine (slices_ContainsFunc_byte_byte.calls _ _ l1 184 true _ ?side1 ?side2 A4.out).mono ?_); (case side1 => repeat (first | exact HR1.out | (with_reducible refine Kd.C_alloc ?_ _) | (with_reducible refine Kd.C_drewN ?_ _) | (with_reducible refine Kd.C_drew ?_))); (case side2 => exact HC1.out); rintro e w' ⟨rfl, ⟨nd, rfl⟩⟩; refine ⟨_, rfl, ?_⟩))
      go_ret2
      exact ⟨_, by first | rfl | (simp [errW_none, errW_some] <;> rfl) | (simp [*, errW_none, errW_some] <;> rfl), by first | exact Kd.R_nil _ _ _ _ _ | exact Kd.N_nil _ _ _ _ _ | exact Kd.V_nil _ _ _ _ _ | exact Kd.Q_nil _ _ _ _ _ | exact Kd.S_nil _ _ _ _ _, by repeat (first | (with_reducible first | exact HB.out | apply below_alloc | apply pw_below_drewN | apply below_drew1) | exact HB.out)⟩
    · replace c5 := Bool.eq_false_iff.mpr c5
      subst c5
      have H1 : (texts_Text.l0 k (([(a0) % 256] : List Int)) l1 (l1.length : Int) 0) = some (r1, r2) := by rw [if_neg (show ¬ (false = true) by decide)] at H; exact H
      clear H
      have H := H1
      clear H1
      obtain ⟨y102, hy102⟩ : ∃ y_ : List Int, y_ = (([(a0) % 256] : List Int)) := ⟨_, rfl⟩
      replace H : (texts_Text.l0 k y102 l1 (l1.length : Int) 0) = some (r1, r2) := by first | (rw [hy102]; with_reducible exact H) | (have H2_ := (Option.bind_some _ _).symm.trans H; rw [hy102]; with_reducible exact H2_) | (have H2_ := (Option.bind_some _ _).symm.trans H; with_reducible exact H2_) | with_reducible exact H | (rw [hy102]; exact H) | exact H
      have Ny102 := Aside0.mk hy102
      clear hy102
      have H' := Aside0.mk H
      clear H
      go_enter Tryd.func150, Tryd.ntmps150
      go_wp2_with (first | ((with_reducible refine gate_callee (f := 185) rfl ?_); refine goesL_ (some 18) rfl rfl Tryd.func185 (by kernel_rfl) rfl #[.slice A1 l1.length c1, .func (.func 184) #[] #[]] rfl (by (try simp only [List.map_toArray, List.map_cons, List.map_nil]); first | done | rfl | (simp only [List.length_drop, List.length_take]; rfl)) ?_; (with_reducible refine (slices_ContainsFunc_byte_byte.calls _ _ l1 184 false _ ?side1 ?side2 A4.out).mono ?_); (case side1 => repeat (first | exact HR1.out | (with_reducible refine Kd.C_alloc ?_ _) | (with_reducible refine Kd.C_drewN ?_ _) | (with_reducible refine Kd.C_drew ?_))); (case side2 => exact HC1.out); rintro e w' ⟨rfl, ⟨nd, rfl⟩⟩; refine ⟨_, rfl, ?_⟩) | ((with_reducible refine gate_dst (N := 21) rfl ?_); refine Kd.R_lit (Kd.int .u8) _ 5 ?hg (N := 21) ?hd (xs := ([(a0) % 256] : List Int)) (inner := [.int .u8 ((a0) % 256)]) (ok := fun _ => True) (okp := fun _ => True) ?hr ?hp (fun _ hk => hk) trivial (Below.refl _ _) (Nat.le_refl _) (by simp) ?_; (case hd => rfl); (case hg => rfl); (case hr => first | (go_simp; done) | (go_simp; rfl)); (case hp => exact (Reps.one (show Kd.M (Kd.int .u8) _ _ _ ((a0) % 256) [.int .u8 ((a0) % 256)] from rfl) (Reps.none _ _))); intro v103 w6 ho7 hb hg_ hnew_; clear hg_ hnew_; (first | rw [← Ny102.out] at ho7 | (simp only [Int.reduceToNat] at ho7; rw [← Ny102.out] at ho7)); have n0_ := Aside0.mk (Kd.R_lower ho7 (below_size (by repeat (first | (with_reducible first | exact HB.out | apply below_alloc | apply pw_below_drewN | apply below_drew1) | exact HB.out)))); have n1_ := Aside0.mk (below_step (by repeat (first | (with_reducible first | exact HB.out | apply below_alloc | apply pw_below_drewN | apply below_drew1) | exact HB.out)) hb); clear HB; have HO104 := n0_; have HB := n1_; clear n0_ n1_; clear hb ho7))
      go_loopg [7, 24] k (fun kq v7 v24 w' => ∃ (x7_1 : List Int) (x24_1 : Int), v24 = .int .i64 x24_1 ∧ Aside0 (texts_Text.l0 kq x7_1 l1 (l1.length : Int) x24_1 = some (r1, r2)) ∧ Aside0 (kq ≤ k) ∧ Aside0 (Kd.R (Kd.int .u8) 5 w' w.heap.size (fun _ => True) v7 x7_1) ∧ Aside0 (Below w.heap.size w w'))
      case atStart => exact ⟨(y102), (0), (by first | rfl | (simp; done) | (simp [*]; done)), H', ⟨Nat.le_refl _⟩, ⟨by (with_reducible repeat (first | apply Kd.R_alloc | apply Kd.R_drewN | apply Kd.R_drew)); exact HO104.out⟩, ⟨by repeat (first | (with_reducible first | exact HB.out | apply below_alloc | apply pw_below_drewN | apply below_drew1) | exact HB.out)⟩⟩
      case round =>
        clear H'
        try clear c1
        try clear p2
        try clear c3
        try clear c3b0
        try clear c3b1
        try clear c5
        obtain ⟨x7_1, x24_1, rfl, HA, HK1, HO_7, HB⟩ := hrel
        cases gk with
        | zero => exact absurd HA.out (by simp [texts_Text.l0])
        | succ k1 =>
          have H := HA.out
          clear HA
          simp only [texts_Text.l0] at H
          by_cases c8 : x24_1 < (l1.length : Int)
          · rw [if_pos c8] at H
            have c8b0 : decide (x24_1 < (l1.length : Int)) = true := decide_eq_true c8
            clear c8
            by_cases c9 : 0 ≤ x24_1
            · rw [if_pos c9] at H
              have c9b0 : decide (0 ≤ x24_1) = true := decide_eq_true c9
              clear c9
              by_cases c10 : x24_1 < (l1.length : Int)
              · rw [if_pos c10] at H
                have c10b0 : decide (x24_1 < (l1.length : Int)) = true := decide_eq_true c10
                clear c10
                obtain ⟨y106, hy106⟩ : ∃ y_ : List Int, y_ = (([(((rd_L1 l1 x24_1).length : Int) / 256) % 256, (((rd_L1 l1 x24_1).length : Int)) % 256] : List Int)) := ⟨_, rfl⟩
                replace H : (if x7_1.length + y106.length < 140737488355328 then ((some (x7_1 ++ y106 : List Int)).bind fun y109 => (if y109.length + (rd_L1 l1 x24_1).length < 140737488355328 then (texts_Text.l0 k1 (y109 ++ (rd_L1 l1 x24_1)) l1 (l1.length : Int) (wrap64 (x24_1 + 1))) else (none))) else (none)) = some (r1, r2) := by first | (rw [hy106]; with_reducible exact H) | (have H2_ := (Option.bind_some _ _).symm.trans H; rw [hy106]; with_reducible exact H2_) | (have H2_ := (Option.bind_some _ _).symm.trans H; with_reducible exact H2_) | with_reducible exact H | (rw [hy106]; exact H) | exact H
                have Ny106 := Aside0.mk hy106
                clear hy106
                by_cases c11 : x7_1.length + y106.length < 140737488355328
                · rw [if_pos c11] at H
                  have LMc11 := Aside0.mk c11
                  clear c11
                  obtain ⟨y109, hy109⟩ : ∃ y_ : List Int, y_ = (x7_1 ++ y106) := ⟨_, rfl⟩
                  replace H : (if y109.length + (rd_L1 l1 x24_1).length < 140737488355328 then (texts_Text.l0 k1 (y109 ++ (rd_L1 l1 x24_1)) l1 (l1.length : Int) (wrap64 (x24_1 + 1))) else (none)) = some (r1, r2) := by first | (rw [hy109]; with_reducible exact H) | (have H2_ := (Option.bind_some _ _).symm.trans H; rw [hy109]; with_reducible exact H2_) | (have H2_ := (Option.bind_some _ _).symm.trans H; with_reducible exact H2_) | with_reducible exact H | (rw [hy109]; exact H) | exact H
                  have Ny109 := Aside0.mk hy109
                  clear hy109
                  by_cases c12 : y109.length + (rd_L1 l1 x24_1).length < 140737488355328
                  · rw [if_pos c12] at H
                    have LMc12 := Aside0.mk c12
                    clear c12
                    obtain ⟨y112, hy112⟩ : ∃ y_ : List Int, y_ = (y109 ++ (rd_L1 l1 x24_1)) := ⟨_, rfl⟩
                    replace H : (texts_Text.l0 k1 y112 l1 (l1.length : Int) (wrap64 (x24_1 + 1))) = some (r1, r2) := by first | (rw [hy112]; with_reducible exact H) | (have H2_ := (Option.bind_some _ _).symm.trans H; rw [hy112]; with_reducible exact H2_) | (have H2_ := (Option.bind_some _ _).symm.trans H; with_reducible exact H2_) | with_reducible exact H | (rw [hy112]; exact H) | exact H
                    have Ny112 := Aside0.mk hy112
                    clear hy112
                    have H' := Aside0.mk H
                    clear H
                    have p105 : 0 ≤ (x24_1 : Int) := of_decide_eq_true (by first | (with_reducible assumption) | assumption)
                    have q105 : x24_1 < (l1.length : Int) := of_decide_eq_true (by first | (with_reducible assumption) | assumption)
                    obtain ⟨ad105, A105_0, c105_0, e105, hx105_0, hl105_0, hi105_0⟩ := at_L1 HR1.out x24_1 p105 q105
                    cases e105
                    replace hx105_0 := (HB.out.cell (World.block_lt_of_cell? w _ hx105_0)).trans hx105_0
                    have HR105_0 := Aside0.mk hi105_0
                    have HC105_0 := Aside0.mk hl105_0
                    clear hi105_0 hl105_0
                    replace p105 := eq_true p105
                    replace q105 := eq_true q105
                    go_wp2_with (first | ((with_reducible refine gate_dst (N := 36) rfl ?_); refine Kd.R_lit (Kd.int .u8) _ 5 ?hg (N := 36) ?hd (xs := ([(((rd_L1 l1 x24_1).length : Int) / 256) % 256, (((rd_L1 l1 x24_1).length : Int)) % 256] : List Int)) (inner := [.int .u8 ((((rd_L1 l1 x24_1).length : Int) / 256) % 256), .int .u8 ((((rd_L1 l1 x24_1).length : Int)) % 256)]) (ok := fun _ => True) (okp := fun _ => True) ?hr ?hp (fun _ hk => hk) trivial (Below.refl _ _) (Nat.le_refl _) (by simp) ?_; (case hd => rfl); (case hg => rfl); (case hr => first | (go_simp; done) | (go_simp; rfl)); (case hp => exact (Reps.one (show Kd.M (Kd.int .u8) _ _ _ ((((rd_L1 l1 x24_1).length : Int) / 256) % 256) [.int .u8 ((((rd_L1 l1 x24_1).length : Int) / 256) % 256)] from rfl) (Reps.one (show Kd.M (Kd.int .u8) _ _ _ ((((rd_L1 l1 x24_1).length : Int)) % 256) [.int .u8 ((((rd_L1 l1 x24_1).length : Int)) % 256)] from rfl) (Reps.none _ _)))); intro v107 w13 ho14 hb hg_ hnew_; clear hg_ hnew_; (first | rw [← Ny106.out] at ho14 | (simp only [Int.reduceToNat] at ho14; rw [← Ny106.out] at ho14)); have n0_ := Aside0.mk (Kd.R_elder' (by (with_reducible repeat (first | apply Kd.R_alloc | apply Kd.R_drewN | apply Kd.R_drew)); exact HO_7.out) (Kd.R_base ho14) hb); have n1_ := Aside0.mk (Kd.R_lower (Kd.R_new' ho14 (Kd.R_lt (by (with_reducible repeat (first | apply Kd.R_alloc | apply Kd.R_drewN | apply Kd.R_drew)); exact HO_7.out))) (below_size (by repeat (first | (with_reducible first | exact HB.out | apply below_alloc | apply pw_below_drewN | apply below_drew1) | exact HB.out)))); have n2_ := Aside0.mk (below_step (by repeat (first | (with_reducible first | exact HB.out | apply below_alloc | apply pw_below_drewN | apply below_drew1) | exact HB.out)) hb); clear HO_7; clear HB; have HO_7 := n0_; have HO108 := n1_; have HB := n2_; clear n0_ n1_ n2_; clear hb ho14; obtain ⟨Ao16, co16, eo16⟩ := Kd.R_slice HO108.out; subst eo16) | ((with_reducible refine gate_builtin (b := .append) (xs := #[.tmp 30, .tmp 36]) rfl ?_); at_builtin; refine Kd.R_append_rows (Kd.int .u8) (w0 := w) w.heap.size rfl (.tmp 30) (.tmp 36) 33 5 (.int .u8 0) 1 rfl Tryd.underlying33 info5 rfl (by decide) (by omega) u7 x7_1 y106 _ _ _ (fun k_ => some k_ ≠ (.slice Ao16 y106.length co16 : Value).ownBlock) (fun _ => False) rfl rfl ?aO ?aR (fun _ _ h => h) (fun _ h => h.elim) ?aF ?aB ?aS ?aL ?_; (case aR => repeat (first | exact (Kd.R_reads' HO108.out).2.2 | (with_reducible refine Kd.C_alloc ?_ _) | (with_reducible refine Kd.C_drewN ?_ _) | (with_reducible refine Kd.C_drew ?_))); (case aB => exact (by repeat (first | (with_reducible first | exact HB.out | apply below_alloc | apply pw_below_drewN | apply below_drew1) | exact HB.out))); (case aF => exact (fun k_ hk => Kd.fresh' (Kd.R_lt (by (with_reducible repeat (first | apply Kd.R_alloc | apply Kd.R_drewN | apply Kd.R_drew)); exact HO108.out)) k_ hk)); (case aO => exact (by (with_reducible repeat (first | apply Kd.R_alloc | apply Kd.R_drewN | apply Kd.R_drew)); exact Kd.R_mono HO_7.out (fun _ hk => hk.2))); (case aS => exact (below_size (by repeat (first | (with_reducible first | exact HB.out | apply below_alloc | apply pw_below_drewN | apply below_drew1) | exact HB.out)))); (case aL => have := LMc11.out; omega); intro v110 w15 ho hb hg hat; rw [← Ny109.out] at ho; have n0_ := Aside0.mk (Kd.R_after (ok := (fun _ => True)) (by (with_reducible repeat (first | apply Kd.R_alloc | apply Kd.R_drewN | apply Kd.R_drew)); exact HO108.out) hg hat); have n1_ := Aside0.mk (hb); have n2_ := Aside0.mk (ho); clear HO108; clear HB; clear HO_7; have HO108 := n0_; have HB := n1_; have HO111 := n2_; clear n0_ n1_ n2_; clear ho hb hg hat) | ((with_reducible refine gate_builtin (b := .append) (xs := #[.tmp 38, .tmp 39]) rfl ?_); at_builtin; refine Kd.R_append_rows (Kd.int .u8) (w0 := w) w.heap.size rfl (.tmp 38) (.tmp 39) 33 5 (.int .u8 0) 1 rfl Tryd.underlying33 info5 rfl (by decide) (by omega) v110 y109 (rd_L1 l1 x24_1) _ _ _ (fun k_ => some k_ ≠ (.slice Ao16 y106.length co16 : Value).ownBlock) (fun _ => False) rfl rfl ?aO ?aR (fun _ _ h => h) (fun _ h => h.elim) ?aF ?aB ?aS ?aL ?_; (case aR => repeat (first | exact (Kd.C_below HR105_0.out HB.out) | (with_reducible refine Kd.C_alloc ?_ _) | (with_reducible refine Kd.C_drewN ?_ _) | (with_reducible refine Kd.C_drew ?_))); (case aB => exact (by repeat (first | (with_reducible first | exact HB.out | apply below_alloc | apply pw_below_drewN | apply below_drew1) | exact HB.out))); (case aF => exact (fun k_ hk => Kd.fresh' (Kd.R_lt (by (with_reducible repeat (first | apply Kd.R_alloc | apply Kd.R_drewN | apply Kd.R_drew)); exact HO108.out)) k_ hk)); (case aO => exact (by (with_reducible repeat (first | apply Kd.R_alloc | apply Kd.R_drewN | apply Kd.R_drew)); exact HO111.out)); (case aS => exact (below_size (by repeat (first | (with_reducible first | exact HB.out | apply below_alloc | apply pw_below_drewN | apply below_drew1) | exact HB.out)))); (case aL => have := LMc12.out; omega); intro v113 w17 ho hb hg hat; rw [← Ny112.out] at ho; have n0_ := Aside0.mk (Kd.R_after (ok := (fun _ => True)) (by (with_reducible repeat (first | apply Kd.R_alloc | apply Kd.R_drewN | apply Kd.R_drew)); exact HO108.out) hg hat); have n1_ := Aside0.mk (hb); have n2_ := Aside0.mk (ho); clear HO108; clear HB; clear HO111; have HO108 := n0_; have HB := n1_; have HO114 := n2_; clear n0_ n1_ n2_; clear ho hb hg hat))
                    go_roundg k1
                    case measure => have := HK1.out; omega
                    case rel => exact ⟨(y112), (wrap64 (x24_1 + 1)), (by first | rfl | (simp; done) | (simp [*]; done)), H', ⟨by have := HK1.out; omega⟩, ⟨by (with_reducible repeat (first | apply Kd.R_alloc | apply Kd.R_drewN | apply Kd.R_drew)); exact Kd.R_mono HO114.out (fun _ hk => trivial)⟩, ⟨by repeat (first | (with_reducible first | exact HB.out | apply below_alloc | apply pw_below_drewN | apply below_drew1) | exact HB.out)⟩⟩
                  · rw [if_neg c12] at H
                    exact absurd H (by simp)
                · rw [if_neg c11] at H
                  exact absurd H (by simp)
              · rw [if_neg c10] at H
                exact absurd H (by simp)
            · rw [if_neg c9] at H
              exact absurd H (by simp)
          · rw [if_neg c8] at H
            have c8b0 : decide (x24_1 < (l1.length : Int)) = false := decide_eq_false c8
            clear c8
            simp only [Option.some.injEq, Prod.mk.injEq] at H
            obtain ⟨rfl, rfl⟩ := H
            go_wp2
            go_ret2
            exact ⟨_, by first | rfl | (simp [errW_none, errW_some] <;> rfl) | (simp [*, errW_none, errW_some] <;> rfl), by (with_reducible repeat (first | apply Kd.R_alloc | apply Kd.R_drewN | apply Kd.R_drew)); exact HO_7.out, by repeat (first | (with_reducible first | exact HB.out | apply below_alloc | apply pw_below_drewN | apply below_drew1) | exact HB.out)⟩
  · rw [if_neg c3] at H
    have c3b0 : (a0 == ((a0) % 256)) = false := beq_eq_false_iff_ne.mpr c3
    have c3b1 : (a0 != ((a0) % 256)) = true := bne_iff_ne.mpr c3
    simp only [Option.some.injEq, Prod.mk.injEq] at H
    obtain ⟨rfl, rfl⟩ := H
    go_enter Tryd.func150, Tryd.ntmps150
    go_wp2
    go_ret2
    exact ⟨_, by first | rfl | (simp [errW_none, errW_some] <;> rfl) | (simp [*, errW_none, errW_some] <;> rfl), by first | exact Kd.R_nil _ _ _ _ _ | exact Kd.N_nil _ _ _ _ _ | exact Kd.V_nil _ _ _ _ _ | exact Kd.Q_nil _ _ _ _ _ | exact Kd.S_nil _ _ _ _ _, by repeat (first | (with_reducible first | exact HB.out | apply below_alloc | apply pw_below_drewN | apply below_drew1) | exact HB.out)⟩

end Go.Proofs.YtbedgjjiinhpkaaDoor.P
