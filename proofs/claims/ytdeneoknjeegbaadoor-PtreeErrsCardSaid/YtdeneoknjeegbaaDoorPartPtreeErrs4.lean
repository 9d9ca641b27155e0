/- Lemmas of this claim, part 4. -/
import Derived.Test.YtdeneoknjeegbaaDoorPartPtreeErrs2
import Derived.Test.YtdeneoknjeegbaaDoorPartPtreeErrs3
import Derived.Laws.CopyOwn
import Derived.Test.YtdeneoknjeegbaaDoorPartPtreeErrs1
import Derived.Outline
set_option linter.unusedVariables false
set_option linter.unusedSimpArgs false
section
namespace Go.Proofs.YtdeneoknjeegbaaDoor.P
open Go.RowKit YtdeneoknjeegbaaDoorW.PrintWords YtdeneoknjeegbaaDoorW.PrintLast YtdeneoknjeegbaaDoorW.PrintMore
theorem right_some (x n : Int) (h0 : 0 <= n) (h1 : n <= 32) : annalsref01_right.f x n = some ((annalsref01_right.f x n).getD 0) := by
  unfold annalsref01_right.f
  rw [if_pos h0, if_pos (by unfold wrap64; omega)]
  rfl
def Sums.agg (s : Sums) : Value := .agg #[.int .u32 s.a, .int .u32 s.b, .int .u32 s.c, .int .u32 s.d, .int .u32 s.e, .int .u32 s.f, .int .u32 s.g, .int .u32 s.h]
def Sums.rround (s : Sums) (add : Int) : Sums :=
  let s0 := Go.bits .xor .u32 (Go.bits .xor .u32 ((annalsref01_right.f s.a 2).getD 0) ((annalsref01_right.f s.a 13).getD 0)) ((annalsref01_right.f s.a 22).getD 0)
  let s1 := Go.bits .xor .u32 (Go.bits .xor .u32 ((annalsref01_right.f s.e 6).getD 0) ((annalsref01_right.f s.e 11).getD 0)) ((annalsref01_right.f s.e 25).getD 0)
  let choice := Go.bits .xor .u32 (Go.bits .and .u32 s.e s.f) (Go.bits .and .u32 (Go.bits .xor .u32 IntKind.u32.max s.e) s.g)
  let most := Go.bits .xor .u32 (Go.bits .xor .u32 (Go.bits .and .u32 s.a s.b) (Go.bits .and .u32 s.a s.c)) (Go.bits .and .u32 s.b s.c)
  ⟨(s.h + s1 + choice + add + s0 + most) % 4294967296, s.a, s.b, s.c, (s.d + (s.h + s1 + choice + add)) % 4294967296, s.e, s.f, s.g⟩
set_option maxRecDepth 100000 in
theorem results_round (W : World) (g : Nat) (v : Sums) (h : IsWords W g 148 v.list) (tm : Array Value) (h4 : tm[4]?.getD undef = .pointer (some ⟨g, 0, none⟩)) : (results Tryd.f114 tm).run Tryd.prog W = .ok v.agg W := by
  obtain ⟨c0, c1, c2, c3, c4, c5, c6, c7⟩ := IsSums.cells h
  simp [results, Tryd.results114, go_sem, h4, c0, c1, c2, c3, c4, c5, c6, c7, Sums.agg]
set_option maxHeartbeats 4000000 in
set_option maxRecDepth 100000 in
theorem round_calls (s : Sums) (add : Int) (w : World) :
    Calls Tryd.prog 114 #[s.agg, .int .u32 add] w fun e w' => e = .returned (s.rround add).agg /\ Below w.heap.size w w' := by
  obtain ⟨y1, h1⟩ : ∃ y, annalsref01_right.f s.a 2 = some y := ⟨_, right_some _ _ (by omega) (by omega)⟩
  obtain ⟨y2, h2⟩ : ∃ y, annalsref01_right.f s.a 13 = some y := ⟨_, right_some _ _ (by omega) (by omega)⟩
  obtain ⟨y3, h3⟩ : ∃ y, annalsref01_right.f s.a 22 = some y := ⟨_, right_some _ _ (by omega) (by omega)⟩
  obtain ⟨y4, h4⟩ : ∃ y, annalsref01_right.f s.e 6 = some y := ⟨_, right_some _ _ (by omega) (by omega)⟩
  obtain ⟨y5, h5⟩ : ∃ y, annalsref01_right.f s.e 11 = some y := ⟨_, right_some _ _ (by omega) (by omega)⟩
  obtain ⟨y6, h6⟩ : ∃ y, annalsref01_right.f s.e 25 = some y := ⟨_, right_some _ _ (by omega) (by omega)⟩
  have G1 := z_ h1
  have G2 := z_ h2
  have G3 := z_ h3
  have G4 := z_ h4
  have G5 := z_ h5
  have G6 := z_ h6
  clear h1 h2 h3 h4 h5 h6
  unfold Sums.agg
  go_enter Tryd.func114, Tryd.ntmps114
  go_wp2_with fail
  obtain ⟨W1, hW1⟩ : ∃ W1, W1 = (w.alloc (Obj.cells (#[.int .u32 s.a, .int .u32 s.b, .int .u32 s.c, .int .u32 s.d, .int .u32 s.e, .int .u32 s.f, .int .u32 s.g, .int .u32 s.h]) 148 (0, 0))).alloc (Obj.cells (#[.int .u32 0, .int .u32 0, .int .u32 0, .int .u32 0, .int .u32 0, .int .u32 0, .int .u32 0, .int .u32 0]) 148 (0, 0)) := ⟨_, rfl⟩
  have hz : (w.alloc (Obj.cells (#[.int .u32 s.a, .int .u32 s.b, .int .u32 s.c, .int .u32 s.d, .int .u32 s.e, .int .u32 s.f, .int .u32 s.g, .int .u32 s.h]) 148 (0, 0))).heap.size = w.heap.size + 1 := by simp
  have hI : IsWords W1 w.heap.size 148 s.list := by
    rw [hW1]
    exact (below_alloc (Below.refl _ _) _).block _ (by rw [hz]; omega) |>.trans (heap_alloc_new w _)
  have hJ : IsWords W1 (w.heap.size + 1) 148 [0, 0, 0, 0, 0, 0, 0, 0] := by
    rw [hW1, <- hz]
    exact heap_alloc_new _ _
  have hB : Below w.heap.size w W1 := by
    rw [hW1]
    exact (below_alloc (Below.refl _ _) _).trans ((below_alloc (Below.refl _ _) _).mono (by rw [hz]; omega))
  rw [<- hW1]
  obtain ⟨g, hg⟩ : ∃ g, g = w.heap.size := ⟨_, rfl⟩
  rw [<- hg] at hI hJ
  rw [<- hg]
  have HJ := z_ hJ
  have HB := z_ hB
  have HG := z_ hg
  obtain ⟨c0, c1, c2, c3, c4, c5, c6, c7⟩ := IsSums.cells hI
  obtain ⟨d0, d1, d2, d3, d4, d5, d6, d7⟩ := IsSums.cells (s := ⟨0, 0, 0, 0, 0, 0, 0, 0⟩) hJ
  have f0 := hJ.frozen 0
  have f1 := hJ.frozen 1
  have f2 := hJ.frozen 2
  have f3 := hJ.frozen 3
  have f4 := hJ.frozen 4
  have f5 := hJ.frozen 5
  have f6 := hJ.frozen 6
  have f7 := hJ.frozen 7
  clear hI hJ hB hg hz hW1
  go_quiet ((go_at_call 113; (first | with_reducible exact quiet_drawn0 (annalsref01_right.calls s.a 2 y1 _ G1.out) | with_reducible exact quiet_drawn2 (annalsref01_right.calls s.a 2 y1 _ G1.out) | with_reducible exact quiet_drawn (annalsref01_right.calls s.a 2 y1 _ G1.out) | with_reducible exact quiet_drawn0 (annalsref01_right.calls s.a 13 y2 _ G2.out) | with_reducible exact quiet_drawn2 (annalsref01_right.calls s.a 13 y2 _ G2.out) | with_reducible exact quiet_drawn (annalsref01_right.calls s.a 13 y2 _ G2.out) | with_reducible exact quiet_drawn0 (annalsref01_right.calls s.a 22 y3 _ G3.out) | with_reducible exact quiet_drawn2 (annalsref01_right.calls s.a 22 y3 _ G3.out) | with_reducible exact quiet_drawn (annalsref01_right.calls s.a 22 y3 _ G3.out))))
  go_wp2_with fail
  go_quiet ((go_at_call 113; (first | with_reducible exact quiet_drawn0 (annalsref01_right.calls s.e 6 y4 _ G4.out) | with_reducible exact quiet_drawn2 (annalsref01_right.calls s.e 6 y4 _ G4.out) | with_reducible exact quiet_drawn (annalsref01_right.calls s.e 6 y4 _ G4.out) | with_reducible exact quiet_drawn0 (annalsref01_right.calls s.e 11 y5 _ G5.out) | with_reducible exact quiet_drawn2 (annalsref01_right.calls s.e 11 y5 _ G5.out) | with_reducible exact quiet_drawn (annalsref01_right.calls s.e 11 y5 _ G5.out) | with_reducible exact quiet_drawn0 (annalsref01_right.calls s.e 25 y6 _ G6.out) | with_reducible exact quiet_drawn2 (annalsref01_right.calls s.e 25 y6 _ G6.out) | with_reducible exact quiet_drawn (annalsref01_right.calls s.e 25 y6 _ G6.out))))
  go_wp2_with fail
  have hR : s.rround add = ⟨(s.h + Go.bits .xor .u32 (Go.bits .xor .u32 y4 y5) y6 + Go.bits .xor .u32 (Go.bits .and .u32 s.e s.f) (Go.bits .and .u32 (Go.bits .xor .u32 IntKind.u32.max s.e) s.g) + add + Go.bits .xor .u32 (Go.bits .xor .u32 y1 y2) y3 + Go.bits .xor .u32 (Go.bits .xor .u32 (Go.bits .and .u32 s.a s.b) (Go.bits .and .u32 s.a s.c)) (Go.bits .and .u32 s.b s.c)) % 4294967296, s.a, s.b, s.c, (s.d + (s.h + Go.bits .xor .u32 (Go.bits .xor .u32 y4 y5) y6 + Go.bits .xor .u32 (Go.bits .and .u32 s.e s.f) (Go.bits .and .u32 (Go.bits .xor .u32 IntKind.u32.max s.e) s.g) + add)) % 4294967296, s.e, s.f, s.g⟩ := by
    unfold Sums.rround
    rw [G1.out, G2.out, G3.out, G4.out, G5.out, G6.out]
    rfl
  have hW := fun n => put8_words (s := ⟨0, 0, 0, 0, 0, 0, 0, 0⟩) (HJ.out.drewN n) (s.rround add).a (s.rround add).b (s.rround add).c (s.rround add).d (s.rround add).e (s.rround add).f (s.rround add).g (s.rround add).h
  have hB2 := fun n => put8_below (w0 := w) (w := W1.drewN n) ⟨HB.out.os, HB.out.tape, HB.out.output, HB.out.size, HB.out.block⟩ (g := g + 1) (by have := HG.out; omega) (s.rround add).a (s.rround add).b (s.rround add).c (s.rround add).d (s.rround add).e (s.rround add).f (s.rround add).g (s.rround add).h
  obtain ⟨S, hS⟩ : ∃ S, S = s.rround add := ⟨_, rfl⟩
  rw [<- hS] at hR hW hB2
  rw [<- hS]
  obtain ⟨va, hva⟩ : ∃ va, va = S.a := ⟨_, rfl⟩
  obtain ⟨ve, hve⟩ : ∃ ve, ve = S.e := ⟨_, rfl⟩
  clear c0 c1 c2 c3 c4 c5 c6 c7 d0 d1 d2 d3 d4 d5 d6 d7 f0 f1 f2 f3 f4 f5 f6 f7
  have hSa : S.a = _ := congrArg Sums.a hR
  have hSe : S.e = _ := congrArg Sums.e hR
  have hSb : S.b = s.a := congrArg Sums.b hR
  have hSc : S.c = s.b := congrArg Sums.c hR
  have hSd : S.d = s.c := congrArg Sums.d hR
  have hSf : S.f = s.e := congrArg Sums.f hR
  have hSg : S.g = s.f := congrArg Sums.g hR
  have hSh : S.h = s.g := congrArg Sums.h hR
  simp only [hSb, hSc, hSd, hSf, hSg, hSh] at hW hB2
  rw [hSa, hSe] at hW hB2
  refine bodyPost_ret (v := S.agg) (results_round _ (g + 1) S ?_ _ rfl) rfl ⟨rfl, hB2 _⟩
  rw [hR]
  exact hW _
theorem results_row (fn : Func) (g t : Nat) (n e : Nat) (slot : Nat) (cs : Array Value) (tm : Array Value) (W : World) (hf : fn.results = #[.cell slot t]) (hu : Tryd.prog.underlying t = some (.array n e)) (hi : (Tryd.prog.info? t).map (·.size) = some cs.size)
    (h : W.heap[g]? = some (.cells cs t (0, 0))) (h4 : tm.getD slot undef = .pointer (some ⟨g, 0, none⟩)) : (results fn tm).run Tryd.prog W = .ok (.agg cs) W := by
  unfold results
  rw [hf]
  have hl := run_loadVar_row (P := Tryd.prog) W g t t cs (0, 0) (.array n e) h hu rfl hi
  have h4' : tm[slot]?.getD undef = .pointer (some ⟨g, 0, none⟩) := by simpa using h4
  simp [h4', asAddr, hl]
set_option maxHeartbeats 4000000 in
set_option maxRecDepth 100000 in
theorem adds_calls (w : World) :
    Calls Tryd.prog 110 #[] w fun e w' => e = .returned (.agg (words shaAdded)) /\ Below w.heap.size w w' := by
  go_enter Tryd.func110, Tryd.ntmps110
  have hbl : Tryd.prog.built 153 ((List.range 64).map fun i => (i, Value.int .u32 (shaAdded.getD i 0))) = some (words shaAdded) := by kernel_rfl
  go_wp2_with (first | (refine wpList_build rfl 153 _ rfl (by kernel_rfl) ?_) | (refine wpList_store_row rfl 153 (.tmp 0) (.tmp 1) rfl w.heap.size (words shaAdded) rfl (by kernel_rfl) 153 _ (heap_alloc_new w _) (by kernel_rfl) (by kernel_rfl) (by kernel_rfl) ?_))
  refine bodyPost_ret (v := .agg (words shaAdded)) (results_row _ w.heap.size 153 64 147 0 _ _ _ rfl Tryd.underlying153 (by kernel_rfl) (setRow_heap _ _ _ _ _ _ (heap_alloc_new w _)) rfl) rfl ⟨rfl, below_setRow (below_alloc (Below.refl _ _) _) (Nat.le_refl _) _⟩
end Go.Proofs.YtdeneoknjeegbaaDoor.P
end
section
namespace Go.Proofs.YtdeneoknjeegbaaDoor.P
open Go.RowKit YtdeneoknjeegbaaDoorW.PrintWords YtdeneoknjeegbaaDoorW.PrintLast YtdeneoknjeegbaaDoorW.PrintMore
attribute [local go_sem] max2_int min2_int max_two min_two max_three min_three max_four min_four
def annalsref01_word.f (l0 : List Int) : Option (Int) := if 0 < (l0.length : Int) then (if 1 < (l0.length : Int) then (if 2 < (l0.length : Int) then (if 3 < (l0.length : Int) then (some ((((((((((rd l0 0) % 4294967296) * 16777216) % 4294967296) + ((((rd l0 1) % 4294967296) * 65536) % 4294967296)) % 4294967296) + ((((rd l0 2) % 4294967296) * 256) % 4294967296)) % 4294967296) + ((rd l0 3) % 4294967296)) % 4294967296)) else (none)) else (none)) else (none)) else (none)
set_option maxHeartbeats 8000000 in
set_option maxRecDepth 100000 in
theorem annalsref01_word.calls (A0 : Option Addr) (c0 : Nat) (l0 : List Int) (r : Int) (w : World) (hr0 : Kd.C (Kd.int .u8) w A0 l0.length l0) (hc0 : l0.length <= c0) (h : annalsref01_word.f l0 = some r) :
    Calls Tryd.prog 112 #[.slice A0 l0.length c0] w fun e w' => e = .returned (.int .u32 r) /\ Drawn0 w w' := by
  have HR0 := z_ hr0
  have HC0 := z_ hc0
  clear hr0 hc0
  have H : (if 0 < (l0.length : Int) then (if 1 < (l0.length : Int) then (if 2 < (l0.length : Int) then (if 3 < (l0.length : Int) then (some ((((((((((rd l0 0) % 4294967296) * 16777216) % 4294967296) + ((((rd l0 1) % 4294967296) * 65536) % 4294967296)) % 4294967296) + ((((rd l0 2) % 4294967296) * 256) % 4294967296)) % 4294967296) + ((rd l0 3) % 4294967296)) % 4294967296)) else (none)) else (none)) else (none)) else (none)) = some r := h
  clear h
  by_cases c2 : 0 < (l0.length : Int)
  · rw [if_pos c2] at H
    have c2b0 : decide (0 < (l0.length : Int)) = true := decide_eq_true c2
    have c2b1 : decide (0 < l0.length) = true := decide_eq_true (by omega)
    clear c2
    by_cases c3 : 1 < (l0.length : Int)
    · rw [if_pos c3] at H
      have c3b0 : decide (1 < (l0.length : Int)) = true := decide_eq_true c3
      have c3b1 : decide (1 < l0.length) = true := decide_eq_true (by omega)
      clear c3
      by_cases c4 : 2 < (l0.length : Int)
      · rw [if_pos c4] at H
        have c4b0 : decide (2 < (l0.length : Int)) = true := decide_eq_true c4
        have c4b1 : decide (2 < l0.length) = true := decide_eq_true (by omega)
        clear c4
        by_cases c5 : 3 < (l0.length : Int)
        · rw [if_pos c5] at H
          have c5b0 : decide (3 < (l0.length : Int)) = true := decide_eq_true c5
          have c5b1 : decide (3 < l0.length) = true := decide_eq_true (by omega)
          clear c5
          obtain rfl := Option.some.inj H
          have p168 : 0 <= (0 : Int) := (by omega)
          have q168 : 0 < (l0.length : Int) := of_decide_eq_true (by first | (with_reducible assumption) | assumption)
          obtain ⟨ad168, e168, hx168_0⟩ := Kd.at_int HR0.out 0 p168 q168
          cases e168
          have qi168 : (0 < l0.length) = True := eq_true (by omega)
          (try rw [show ((0 : Int)).toNat = 0 from rfl] at hx168_0)
          (try rw [Addr.add_zero'] at hx168_0)
          replace p168 := eq_true p168
          replace q168 := eq_true q168
          have p169 : 0 <= (1 : Int) := (by omega)
          have q169 : 1 < (l0.length : Int) := of_decide_eq_true (by first | (with_reducible assumption) | assumption)
          obtain ⟨ad169, e169, hx169_0⟩ := Kd.at_int HR0.out 1 p169 q169
          obtain rfl : ad168 = ad169 := (by injection e169)
          (try simp only [show (1 : Int).toNat = 1 from rfl, Nat.reduceMul, Nat.reduceEqDiff, Go.Addr.add, ↓reduceIte] at hx169_0)
          have qi169 : (1 < l0.length) = True := eq_true (by omega)
          (try rw [show ((1 : Int)).toNat = 1 from rfl] at hx169_0)
          replace p169 := eq_true p169
          replace q169 := eq_true q169
          have p170 : 0 <= (2 : Int) := (by omega)
          have q170 : 2 < (l0.length : Int) := of_decide_eq_true (by first | (with_reducible assumption) | assumption)
          obtain ⟨ad170, e170, hx170_0⟩ := Kd.at_int HR0.out 2 p170 q170
          obtain rfl : ad168 = ad170 := (by injection e170)
          (try simp only [show (2 : Int).toNat = 2 from rfl, Nat.reduceMul, Nat.reduceEqDiff, Go.Addr.add, ↓reduceIte] at hx170_0)
          have qi170 : (2 < l0.length) = True := eq_true (by omega)
          (try rw [show ((2 : Int)).toNat = 2 from rfl] at hx170_0)
          replace p170 := eq_true p170
          replace q170 := eq_true q170
          have p171 : 0 <= (3 : Int) := (by omega)
          have q171 : 3 < (l0.length : Int) := of_decide_eq_true (by first | (with_reducible assumption) | assumption)
          obtain ⟨ad171, e171, hx171_0⟩ := Kd.at_int HR0.out 3 p171 q171
          obtain rfl : ad168 = ad171 := (by injection e171)
          (try simp only [show (3 : Int).toNat = 3 from rfl, Nat.reduceMul, Nat.reduceEqDiff, Go.Addr.add, ↓reduceIte] at hx171_0)
          have qi171 : (3 < l0.length) = True := eq_true (by omega)
          (try rw [show ((3 : Int)).toNat = 3 from rfl] at hx171_0)
          replace p171 := eq_true p171
          replace q171 := eq_true q171
          go_enter Tryd.func112, Tryd.ntmps112
          go_wp2
          repeat (go_quiet (fail); try go_wp2)
          go_ret
          exact ⟨by first | rfl | (simp; done) | (simp [*]; done), by repeat (first | exact Drawn0.refl _ | apply Drawn0.step)⟩
        · rw [if_neg c5] at H
          exact absurd H (by simp)
      · rw [if_neg c4] at H
        exact absurd H (by simp)
    · rw [if_neg c3] at H
      exact absurd H (by simp)
  · rw [if_neg c2] at H
    exact absurd H (by simp)
def annalsref01_Blocks.f (a0 : Int) : Option (Int) := if a0 < 0 then (some (((0 : Int) / 64) + (((((0 : Int) % 64) + 9) + 63) / 64))) else (some (wrap64 ((wrap64 (Int.tdiv a0 64)) + (wrap64 (Int.tdiv (wrap64 ((wrap64 ((Int.tmod a0 64) + 9)) + 63)) 64)))))
set_option maxHeartbeats 8000000 in
set_option maxRecDepth 100000 in
theorem annalsref01_Blocks.calls (a0 : Int) (r : Int) (w : World) (h : annalsref01_Blocks.f a0 = some r) :
    Calls Tryd.prog 111 #[.int .i64 a0] w fun e w' => e = .returned (.int .i64 r) /\ Drawn0 w w' := by
  have H : (if a0 < 0 then (some (((0 : Int) / 64) + (((((0 : Int) % 64) + 9) + 63) / 64))) else (some (wrap64 ((wrap64 (Int.tdiv a0 64)) + (wrap64 (Int.tdiv (wrap64 ((wrap64 ((Int.tmod a0 64) + 9)) + 63)) 64)))))) = some r := h
  clear h
  by_cases c2 : a0 < 0
  · rw [if_pos c2] at H
    have c2b0 : decide (a0 < 0) = true := decide_eq_true c2
    clear c2
    obtain rfl := Option.some.inj H
    go_enter Tryd.func111, Tryd.ntmps111
    go_wp2
    go_ret
    exact ⟨by first | rfl | (simp; done) | (simp [*]; done), by repeat (first | exact Drawn0.refl _ | apply Drawn0.step)⟩
  · rw [if_neg c2] at H
    have c2b0 : decide (a0 < 0) = false := decide_eq_false c2
    clear c2
    obtain rfl := Option.some.inj H
    go_enter Tryd.func111, Tryd.ntmps111
    go_wp2
    go_ret
    exact ⟨by first | rfl | (simp; done) | (simp [*]; done), by repeat (first | exact Drawn0.refl _ | apply Drawn0.step)⟩
end Go.Proofs.YtdeneoknjeegbaaDoor.P
end
section
namespace Go.Proofs.YtdeneoknjeegbaaDoor.P
open Go.RowKit YtdeneoknjeegbaaDoorW.PrintWords YtdeneoknjeegbaaDoorW.PrintLast YtdeneoknjeegbaaDoorW.PrintMore
def rblocks (n : Nat) : Nat := n / 64 + (n % 64 + 72) / 64
theorem rblocks_f (n : Nat) (hn : n <= 140737488355328) : annalsref01_Blocks.f (n : Int) = some (rblocks n : Int) := by
  unfold annalsref01_Blocks.f rblocks
  rw [if_neg (by omega)]
  congr 1
  have e1 : Int.tdiv (n : Int) 64 = (n : Int) / 64 := Int.tdiv_eq_ediv_of_nonneg (by omega)
  have e2 : Int.tmod (n : Int) 64 = (n : Int) % 64 := Int.tmod_eq_emod_of_nonneg (by omega)
  have e3 : wrap64 (wrap64 ((n : Int) % 64 + 9) + 63) = (n : Int) % 64 + 72 := by unfold wrap64; omega
  rw [e1, e2, e3, Int.tdiv_eq_ediv_of_nonneg (by omega)]
  unfold wrap64
  omega
def rpad (bs : List Int) (k : Nat) : List Int := bs ++ [128] ++ List.replicate k 0
def rzeros (n : Nat) : Nat := 64 * rblocks n - 8 - (n + 1)
theorem rzeros_eq (n : Nat) : n + 1 + rzeros n + 8 = 64 * rblocks n := by unfold rzeros rblocks; omega
theorem rzeros_le (n : Nat) : rzeros n <= 64 := by unfold rzeros rblocks; omega
def rlen (n : Nat) : Nat -> List Int
  | 0 => []
  | k + 1 => rlen n k ++ [(8 * (n : Int)) / 2 ^ (56 - 8 * (k : Int)).toNat % 256]
theorem rlen_length (n k : Nat) : (rlen n k).length = k := by
  induction k with
  | zero => rfl
  | succ k ih => simp [rlen, ih]
def rtext (bs : List Int) : List Int := rpad bs (rzeros bs.length) ++ rlen bs.length 8
theorem rpad_length (bs : List Int) (k : Nat) : (rpad bs k).length = bs.length + 1 + k := by simp [rpad]; omega
theorem rtext_length (bs : List Int) : (rtext bs).length = 64 * rblocks bs.length := by
  unfold rtext
  rw [List.length_append, rpad_length, rlen_length]
  exact rzeros_eq _
def rword (ts : List Int) : Int := (annalsref01_word.f ts).getD 0
theorem rword_f (ts : List Int) (h : 4 <= ts.length) : annalsref01_word.f ts = some (rword ts) := by
  unfold rword annalsref01_word.f
  rw [if_pos (by omega), if_pos (by omega), if_pos (by omega), if_pos (by omega)]
  rfl
def rnext (ws : List Int) (i : Nat) : Int :=
  let a := ws.getD (i - 15) 0
  let c := ws.getD (i - 2) 0
  (ws.getD (i - 16) 0 + Go.bits .xor .u32 (Go.bits .xor .u32 ((annalsref01_right.f a 7).getD 0) ((annalsref01_right.f a 18).getD 0)) (a / 8) + ws.getD (i - 7) 0 + Go.bits .xor .u32 (Go.bits .xor .u32 ((annalsref01_right.f c 17).getD 0) ((annalsref01_right.f c 19).getD 0)) (c / 1024)) % 4294967296
def rws (ts : List Int) (at_ : Nat) : Nat -> List Int
  | 0 => zeros64
  | i + 1 => (rws ts at_ i).set i (if i < 16 then rword (ts.drop (at_ + 4 * i)) else rnext (rws ts at_ i) i)
theorem rws_length (ts : List Int) (p i : Nat) : (rws ts p i).length = 64 := by
  induction i with
  | zero => rfl
  | succ i ih => simp [rws, ih]
def rrounds (ts : List Int) (p : Nat) (h : Sums) : Nat -> Sums
  | 0 => h
  | i + 1 => (rrounds ts p h i).rround ((shaAdded.getD i 0 + (rws ts p (i + 1)).getD i 0) % 4294967296)
def rsums (ts : List Int) : Nat -> Sums
  | 0 => Sums.first
  | m + 1 => Sums.of (addW (rsums ts m).list (rrounds ts (64 * m) (rsums ts m) 64).list 8)
def rout (ws : List Int) : Nat -> List Int
  | 0 => []
  | k + 1 => rout ws k ++ [ws.getD k 0 / 16777216 % 256, ws.getD k 0 / 65536 % 256, ws.getD k 0 / 256 % 256, ws.getD k 0 % 256]
theorem rout_length (ws : List Int) (k : Nat) : (rout ws k).length = 4 * k := by
  induction k with
  | zero => rfl
  | succ k ih => simp [rout, ih]; omega
def refSum (bs : List Int) : List Int := rout (rsums (rtext bs) (rblocks bs.length)).list 8
theorem round_calls2 (s : Sums) (add : Int) (w : World) :
    Calls Tryd.prog 114 #[.agg #[.int .u32 s.a, .int .u32 s.b, .int .u32 s.c, .int .u32 s.d, .int .u32 s.e, .int .u32 s.f, .int .u32 s.g, .int .u32 s.h], .int .u32 add] w fun e w' => e = .returned (.agg #[.int .u32 (s.rround add).a, .int .u32 (s.rround add).b, .int .u32 (s.rround add).c, .int .u32 (s.rround add).d, .int .u32 (s.rround add).e, .int .u32 (s.rround add).f, .int .u32 (s.rround add).g, .int .u32 (s.rround add).h]) /\ Below w.heap.size w w' :=
  round_calls s add w
set_option maxRecDepth 100000 in
theorem words8_index (s : Sums) (k : Nat) (hk : k < 8) (w : World) : (Instr.index 148 (.agg #[.int .u32 s.a, .int .u32 s.b, .int .u32 s.c, .int .u32 s.d, .int .u32 s.e, .int .u32 s.f, .int .u32 s.g, .int .u32 s.h]) (.int .i64 (k : Int))).run Tryd.prog w = .ok (.int .u32 (s.list.getD k 0)) w := by
  rcases (show k = 0 \/ k = 1 \/ k = 2 \/ k = 3 \/ k = 4 \/ k = 5 \/ k = 6 \/ k = 7 by omega) with rfl | rfl | rfl | rfl | rfl | rfl | rfl | rfl
  all_goals kernel_rfl
theorem IsWords.grown {w w1 : World} {g t e base : Nat} {xs : List Int} {v : Value} {ok : Nat -> Prop} {ys : List Int} (h : IsWords w g t xs) (hR : Kd.R (Kd.int .u8) e w base ok v ys) (hne : e ≠ t) (hg : w.grownBy w1 v.ownBlock) : IsWords w1 g t xs :=
  (hg.block g h.lt (Kd.R_ne hR h hne)).trans h
structure RefMem (w0 w : World) (g3 g4 : Nat) (hs : List Int) : Prop where
  h3 : IsWords w g3 148 hs
  h4 : IsWords w g4 153 shaAdded
  bel : Below w0.heap.size w0 w
  ge3 : w0.heap.size <= g3
  ne : g3 ≠ g4
theorem RefMem.grown {w0 w w1 : World} {g3 g4 base : Nat} {hs ys : List Int} {v : Value} {ok : Nat -> Prop} (h : RefMem w0 w g3 g4 hs) (hR : Kd.R (Kd.int .u8) 5 w base ok v ys) (hg : w.grownBy w1 v.ownBlock) (hb : Below w0.heap.size w0 w1) : RefMem w0 w1 g3 g4 hs :=
  ⟨h.h3.grown hR (by decide) hg, h.h4.grown hR (by decide) hg, hb, h.ge3, h.ne⟩
theorem RefMem.below {w0 w w1 : World} {g3 g4 : Nat} {hs : List Int} (h : RefMem w0 w g3 g4 hs) (hb : Below w.heap.size w w1) : RefMem w0 w1 g3 g4 hs :=
  ⟨h.h3.below hb h.h3.lt, h.h4.below hb h.h4.lt, h.bel.trans (hb.mono h.bel.size), h.ge3, h.ne⟩
theorem RefMem.start {w0 w1 : World} {o3 o4 : Obj} {hs : List Int} (ho : o3 = .cells (words hs) 148 (0, 0)) (hb : Below (w0.alloc o3).heap.size (w0.alloc o3) w1) {old : Array Value} (ho4 : o4 = .cells old 153 (0, 0)) :
    RefMem w0 ((w1.alloc o4).setRow w1.heap.size (words shaAdded)) w0.heap.size w1.heap.size hs := by
  have hz : (w0.alloc o3).heap.size = w0.heap.size + 1 := by simp
  have h0 : IsWords (w0.alloc o3) w0.heap.size 148 hs := by
    rw [ho]
    exact heap_alloc_new w0 _
  have hs1 : w0.heap.size + 1 <= w1.heap.size := by rw [<- hz]; exact hb.size
  have h1 : IsWords w1 w0.heap.size 148 hs := h0.below hb (by omega)
  have ha : Below w1.heap.size w1 ((w1.alloc o4).setRow w1.heap.size (words shaAdded)) := below_setRow (below_alloc (Below.refl _ _) _) (Nat.le_refl _) _
  refine ⟨h1.below ha (by omega), ?_, ?_, Nat.le_refl _, by omega⟩
  · exact setRow_heap _ _ _ _ _ _ (by rw [ho4]; exact heap_alloc_new w1 _)
  · exact (below_alloc (Below.refl _ _) _).trans ((hb.trans (ha.mono hb.size)).mono (by omega))
structure RefMem2 (w0 w : World) (g3 g4 g8 g9 : Nat) (hs ws : List Int) (v : Sums) (vt : Value) (T : List Int) : Prop where
  mem : RefMem w0 w g3 g4 hs
  h8 : IsWords w g8 153 ws
  h9 : IsWords w g9 148 v.list
  txt : Kd.R (Kd.int .u8) 5 w w0.heap.size (fun _ => True) vt T
  ge8 : w0.heap.size <= g8
  ge9 : w0.heap.size <= g9
  n38 : g3 ≠ g8
  n48 : g4 ≠ g8
  n39 : g3 ≠ g9
  n49 : g4 ≠ g9
  n89 : g8 ≠ g9
theorem RefMem2.below {w0 w w1 : World} {g3 g4 g8 g9 : Nat} {hs ws : List Int} {v : Sums} {vt : Value} {T : List Int} (h : RefMem2 w0 w g3 g4 g8 g9 hs ws v vt T) (hb : Below w.heap.size w w1) : RefMem2 w0 w1 g3 g4 g8 g9 hs ws v vt T :=
  ⟨h.mem.below hb, h.h8.below hb h.h8.lt, h.h9.below hb h.h9.lt, Kd.R_below h.txt hb, h.ge8, h.ge9, h.n38, h.n48, h.n39, h.n49, h.n89⟩
theorem RefMem2.drewN {w0 w : World} {g3 g4 g8 g9 : Nat} {hs ws : List Int} {v : Sums} {vt : Value} {T : List Int} (h : RefMem2 w0 w g3 g4 g8 g9 hs ws v vt T) (n : Nat) : RefMem2 w0 (w.drewN n) g3 g4 g8 g9 hs ws v vt T :=
  h.below (pw_below_drewN (Below.refl _ _) n)
theorem RefMem.far {w0 w : World} {g3 g4 g : Nat} {hs : List Int} (h : RefMem w0 w g3 g4 hs) (h3 : g3 ≠ g) (h4 : g4 ≠ g) (hg : w0.heap.size <= g) (i : Nat) (u : Value) : RefMem w0 (w.setCell ⟨g, i, none⟩ u) g3 g4 hs :=
  ⟨blk_far h.h3 h3 _, blk_far h.h4 h4 _, h.bel.setCell hg _, h.ge3, h.ne⟩
theorem RefMem2.set8 {w0 w : World} {g3 g4 g8 g9 : Nat} {hs ws : List Int} {v : Sums} {vt : Value} {T : List Int} (h : RefMem2 w0 w g3 g4 g8 g9 hs ws v vt T) (i : Nat) (x : Int) : RefMem2 w0 (w.setCell ⟨g8, i, none⟩ (.int .u32 x)) g3 g4 g8 g9 hs (ws.set i x) v vt T :=
  ⟨h.mem.far h.n38 h.n48 h.ge8 _ _, h.h8.set i x, blk_far h.h9 (Ne.symm h.n89) _, Kd.R_set h.txt h.h8 (by decide) _ _, h.ge8, h.ge9, h.n38, h.n48, h.n39, h.n49, h.n89⟩
theorem RefMem2.set9 {w0 w : World} {g3 g4 g8 g9 : Nat} {hs ws : List Int} {v v' : Sums} {vt : Value} {T : List Int} (h : RefMem2 w0 w g3 g4 g8 g9 hs ws v vt T) (i : Nat) (x : Int) (hv : v'.list = v.list.set i x) : RefMem2 w0 (w.setCell ⟨g9, i, none⟩ (.int .u32 x)) g3 g4 g8 g9 hs ws v' vt T :=
  ⟨h.mem.far h.n39 h.n49 h.ge9 _ _, blk_far h.h8 h.n89 _, by rw [hv]; exact h.h9.set i x, Kd.R_set h.txt h.h9 (by decide) _ _, h.ge8, h.ge9, h.n38, h.n48, h.n39, h.n49, h.n89⟩
theorem RefMem2.put9 {w0 w : World} {g3 g4 g8 g9 : Nat} {hs ws : List Int} {v : Sums} {vt : Value} {T : List Int} (h : RefMem2 w0 w g3 g4 g8 g9 hs ws v vt T) (s : Sums) : RefMem2 w0 (put8 w g9 s.a s.b s.c s.d s.e s.f s.g s.h) g3 g4 g8 g9 hs ws s vt T := by
  have h0 := h.set9 (v' := ⟨s.a, v.b, v.c, v.d, v.e, v.f, v.g, v.h⟩) 0 s.a rfl
  have h1 := h0.set9 (v' := ⟨s.a, s.b, v.c, v.d, v.e, v.f, v.g, v.h⟩) 1 s.b rfl
  have h2 := h1.set9 (v' := ⟨s.a, s.b, s.c, v.d, v.e, v.f, v.g, v.h⟩) 2 s.c rfl
  have h3 := h2.set9 (v' := ⟨s.a, s.b, s.c, s.d, v.e, v.f, v.g, v.h⟩) 3 s.d rfl
  have h4 := h3.set9 (v' := ⟨s.a, s.b, s.c, s.d, s.e, v.f, v.g, v.h⟩) 4 s.e rfl
  have h5 := h4.set9 (v' := ⟨s.a, s.b, s.c, s.d, s.e, s.f, v.g, v.h⟩) 5 s.f rfl
  have h6 := h5.set9 (v' := ⟨s.a, s.b, s.c, s.d, s.e, s.f, s.g, v.h⟩) 6 s.g rfl
  exact h6.set9 (v' := s) 7 s.h rfl
theorem RefMem2.set3 {w0 w : World} {g3 g4 g8 g9 : Nat} {hs ws : List Int} {v : Sums} {vt : Value} {T : List Int} (h : RefMem2 w0 w g3 g4 g8 g9 hs ws v vt T) (i : Nat) (x : Int) : RefMem2 w0 (w.setCell ⟨g3, i, none⟩ (.int .u32 x)) g3 g4 g8 g9 (hs.set i x) ws v vt T :=
  ⟨⟨h.mem.h3.set i x, blk_far h.mem.h4 (Ne.symm h.mem.ne) _, h.mem.bel.setCell h.mem.ge3 _, h.mem.ge3, h.mem.ne⟩, blk_far h.h8 (Ne.symm h.n38) _, blk_far h.h9 (Ne.symm h.n39) _, Kd.R_set h.txt h.mem.h3 (by decide) _ _, h.ge8, h.ge9, h.n38, h.n48, h.n39, h.n49, h.n89⟩
theorem RefMem2.start {w wr W4 : World} {g3 g4 : Nat} {v : Sums} {vt : Value} {T : List Int} (hM : RefMem w wr g3 g4 v.list) (hT : Kd.R (Kd.int .u8) 5 wr w.heap.size (fun _ => True) vt T) {o8 o9 : Obj} (hW4 : W4 = (wr.alloc o8).alloc o9)
    (h8 : o8 = .cells (words zeros64) 153 (0, 0)) (h9 : o9 = .cells (words v.list) 148 (0, 0)) : RefMem2 w W4 g3 g4 wr.heap.size (wr.heap.size + 1) v.list zeros64 v vt T := by
  have hz : (wr.alloc o8).heap.size = wr.heap.size + 1 := by simp
  have b1 := below_alloc (Below.refl wr.heap.size wr) o8
  have b2 := below_alloc (Below.refl (wr.alloc o8).heap.size (wr.alloc o8)) o9
  have i8 : IsWords (wr.alloc o8) wr.heap.size 153 zeros64 := by
    rw [h8]
    exact heap_alloc_new wr _
  have i9 : IsWords W4 (wr.heap.size + 1) 148 v.list := by
    rw [hW4, <- hz, h9]
    exact heap_alloc_new _ _
  have b3 : Below wr.heap.size wr W4 := by
    rw [hW4]
    exact b1.trans (b2.mono (by omega))
  have l3 := hM.h3.lt
  have l4 := hM.h4.lt
  have ls := hM.bel.size
  exact ⟨hM.below b3, by rw [hW4]; exact i8.below b2 (by omega), i9, Kd.R_below hT b3, ls, by omega, by omega, by omega, by omega, by omega, by omega⟩
theorem name2 {G : World -> Prop} {w : World} {o o' : Obj} (h : ∀ W, W = (w.alloc o).alloc o' -> G W) : G ((w.alloc o).alloc o') := h _ rfl
theorem word_at (A2 : Option Addr) (c : Nat) (T : List Int) (j : Nat) (x : Int) (w : World) (hC : Kd.C (Kd.int .u8) w A2 (T.drop j).length (T.drop j)) (hc : (T.drop j).length <= c) (h : annalsref01_word.f (T.drop j) = some x) :
    Calls Tryd.prog 112 #[.slice A2 (T.length - j) c] w fun e w' => e = .returned (.int .u32 x) /\ Drawn0 w w' := by
  rw [<- List.length_drop]
  exact annalsref01_word.calls A2 c (T.drop j) x w hC hc h
theorem RefMem2.drew {w0 w : World} {g3 g4 g8 g9 : Nat} {hs ws : List Int} {v : Sums} {vt : Value} {T : List Int} (h : RefMem2 w0 w g3 g4 g8 g9 hs ws v vt T) : RefMem2 w0 w.drew g3 g4 g8 g9 hs ws v vt T :=
  h.below (below_drew (Below.refl _ _))
set_option maxHeartbeats 4000000 in
set_option maxRecDepth 100000 in
theorem rsum_any (A0 : Option Addr) (cap : Nat) (bs : List Int) (w : World) (hr : Kd.C (Kd.int .u8) w A0 bs.length bs) (hc : bs.length <= cap) (hb : bs.length <= 140737488355000) :
    Calls Tryd.prog 105 #[.slice A0 bs.length cap] w fun e w' => ∃ v0_, e = .returned v0_ /\ Kd.R (Kd.int .u8) 5 w' w.heap.size (fun _ => True) v0_ (refSum bs) /\ Below w.heap.size w w' := by
  have HR := z_ hr
  have HC := z_ hc
  have HBB := z_ hb
  clear hr hc hb
  go_enter Tryd.func105, Tryd.ntmps105
  go_wp2_with fail
  refine (adds_calls _).mono ?_
  rintro e1 w1 ⟨rfl, hB1⟩
  have HB1 := z_ hB1
  clear hB1
  go_wp2_with (first | (refine wpList_store_row rfl 153 (.tmp 4) (.tmp 18) rfl w1.heap.size (words shaAdded) rfl rfl 153 _ (heap_alloc_new w1 _) (by kernel_rfl) (by kernel_rfl) (by kernel_rfl) ?_; have HM := RefMem.start (w0 := w) (hs := shaFirst) rfl HB1.out (o4 := Obj.cells (#[.int .u32 0, .int .u32 0, .int .u32 0, .int .u32 0, .int .u32 0, .int .u32 0, .int .u32 0, .int .u32 0, .int .u32 0, .int .u32 0, .int .u32 0, .int .u32 0, .int .u32 0, .int .u32 0, .int .u32 0, .int .u32 0, .int .u32 0, .int .u32 0, .int .u32 0, .int .u32 0, .int .u32 0, .int .u32 0, .int .u32 0, .int .u32 0, .int .u32 0, .int .u32 0, .int .u32 0, .int .u32 0, .int .u32 0, .int .u32 0, .int .u32 0, .int .u32 0, .int .u32 0, .int .u32 0, .int .u32 0, .int .u32 0, .int .u32 0, .int .u32 0, .int .u32 0, .int .u32 0, .int .u32 0, .int .u32 0, .int .u32 0, .int .u32 0, .int .u32 0, .int .u32 0, .int .u32 0, .int .u32 0, .int .u32 0, .int .u32 0, .int .u32 0, .int .u32 0, .int .u32 0, .int .u32 0, .int .u32 0, .int .u32 0, .int .u32 0, .int .u32 0, .int .u32 0, .int .u32 0, .int .u32 0, .int .u32 0, .int .u32 0, .int .u32 0]) 153 (0, 0)) rfl; obtain ⟨W2, hW2⟩ : ∃ W2, W2 = (w1.alloc (Obj.cells (#[.int .u32 0, .int .u32 0, .int .u32 0, .int .u32 0, .int .u32 0, .int .u32 0, .int .u32 0, .int .u32 0, .int .u32 0, .int .u32 0, .int .u32 0, .int .u32 0, .int .u32 0, .int .u32 0, .int .u32 0, .int .u32 0, .int .u32 0, .int .u32 0, .int .u32 0, .int .u32 0, .int .u32 0, .int .u32 0, .int .u32 0, .int .u32 0, .int .u32 0, .int .u32 0, .int .u32 0, .int .u32 0, .int .u32 0, .int .u32 0, .int .u32 0, .int .u32 0, .int .u32 0, .int .u32 0, .int .u32 0, .int .u32 0, .int .u32 0, .int .u32 0, .int .u32 0, .int .u32 0, .int .u32 0, .int .u32 0, .int .u32 0, .int .u32 0, .int .u32 0, .int .u32 0, .int .u32 0, .int .u32 0, .int .u32 0, .int .u32 0, .int .u32 0, .int .u32 0, .int .u32 0, .int .u32 0, .int .u32 0, .int .u32 0, .int .u32 0, .int .u32 0, .int .u32 0, .int .u32 0, .int .u32 0, .int .u32 0, .int .u32 0, .int .u32 0]) 153 (0, 0))).setRow w1.heap.size (words shaAdded) := ⟨_, rfl⟩; rw [<- hW2] at HM; rw [<- hW2]; clear hW2; replace HM := z_ HM) | ((with_reducible refine gate_builtin (b := .append) (xs := #[.tmp 19, .tmp 20]) rfl ?_); go_must (at_builtin; refine Kd.R_append_rows (Kd.int .u8) (w0 := w) w.heap.size rfl (.tmp 19) (.tmp 20) 31 5 (.int .u8 0) 1 rfl Tryd.underlying31 info5 rfl (by decide) (by omega) (.slice none 0 0) [] bs _ _ _ (fun _ => True) (fun _ => False) rfl rfl ?aO ?aR (fun _ _ h => h) (fun _ h => h.elim) ?aF ?aB ?aS ?aL ?_; (case aR => exact Kd.C_below HR.out HM.out.bel); (case aB => exact HM.out.bel); (case aF => exact (fun _ _ => trivial)); (case aO => exact Kd.R_nil _ _ _ _ _); (case aS => exact HM.out.bel.size); (case aL => have := HBB.out; simp; omega); intro v2 w2 ho hb2 hg hat; rw [List.nil_append] at ho; have HM2 := z_ (HM.out.grown (Kd.R_nil (Kd.int .u8) _ _ w.heap.size (fun _ => True)) hg hb2); have HO2 := z_ ho; clear ho hb2 hg hat HM)) | ((with_reducible refine gate_builtin (b := .append) (xs := #[.tmp 21, .tmp 22]) rfl ?_); go_must (at_builtin; refine Kd.R_append (Kd.int .u8) (w0 := w) w.heap.size rfl (.tmp 21) (.tmp 22) 31 5 (.int .u8 0) 1 rfl Tryd.underlying31 info5 rfl (by decide) (by omega) v2 bs 128 [.int .u8 128] (fun _ => True) (fun _ => False) rfl rfl ?aP (fun _ h => h.elim) ?aF ?aO ?aB ?aS ?aL ?_; (case aP => exact rfl); (case aB => exact HM2.out.bel); (case aF => exact (fun _ _ => trivial)); (case aO => exact HO2.out); (case aS => exact HM2.out.bel.size); (case aL => have := HBB.out; omega); intro v3 w3 ho hb3 hg hat; have HM3 := z_ (HM2.out.grown HO2.out hg hb3); have HO3 := z_ (show Kd.R (Kd.int .u8) 5 w3 w.heap.size (fun _ => True) v3 (rpad bs 0) from by rw [rpad, List.replicate_zero, List.append_nil]; exact ho); clear ho hb3 hg hat HM2 HO2)))
  obtain ⟨g3, hg3⟩ : ∃ g, g = w.heap.size := ⟨_, rfl⟩
  obtain ⟨g4, hg4⟩ : ∃ g, g = w1.heap.size := ⟨_, rfl⟩
  replace HM3 : Aside0 (RefMem w w3 g3 g4 shaFirst) := ⟨by rw [hg3, hg4]; exact HM3.out⟩
  rw [<- hg3, <- hg4]
  clear hg3 hg4 HB1
  obtain ⟨rb, hrb⟩ : ∃ rb : Int, rb = (rblocks bs.length : Int) := ⟨_, rfl⟩
  have HF := z_ (rblocks_f bs.length (by have := HBB.out; omega))
  rw [<- hrb] at HF
  have rb0 : 0 <= rb := by omega
  have rb1 : rb <= 4398046511104 := by have := HBB.out; unfold rblocks at hrb; omega
  have HRB := z_ hrb
  have hn1 : (bs.length : Int) <= 140737488355000 := by have := HBB.out; omega
  clear hrb
  go_loopw [5] (fun v5 wr => ∃ k : Nat, k <= rzeros bs.length /\ Aside0 (Kd.R (Kd.int .u8) 5 wr w.heap.size (fun _ => True) v5 (rpad bs k)) /\ Aside0 (RefMem w wr g3 g4 shaFirst)) (fun v5 _ => match v5 with | .slice _ n _ => 64 * rblocks bs.length - n | _ => 0)
  case atStart => exact ⟨0, by omega, HO3, HM3⟩
  case round =>
    clear HO3 HM3
    obtain ⟨k, hk, HO, HM⟩ := hrel
    obtain ⟨A, c, rfl⟩ := Kd.R_slice HO.out
    have hz := rzeros_eq bs.length
    obtain ⟨xs, hxs⟩ : ∃ xs, xs = rpad bs k := ⟨_, rfl⟩
    have hxl : xs.length = bs.length + 1 + k := by rw [hxs]; exact rpad_length _ _
    rw [<- hxs] at HO
    rw [<- hxs]
    have HXS := z_ hxs
    have HXL := z_ hxl
    have HZ := z_ hz
    by_cases hlt : k < rzeros bs.length
    · have hd : decide ((xs.length : Int) < 64 * rb - 8) = true := by have := HRB.out; simp; omega
      have HLT := z_ hlt
      clear hlt hxs hxl hz hk
      go_wp2_with fail
      refine (annalsref01_Blocks.calls (bs.length : Int) rb _ HF.out).mono ?_
      rintro e2 w2 ⟨rfl, hdr⟩
      obtain ⟨q, rfl⟩ := hdr.out
      clear hdr
      go_wp2_with (first | ((with_reducible refine gate_builtin (b := .append) (xs := #[.tmp 32, .tmp 33]) rfl ?_); go_must (at_builtin; refine Kd.R_append (Kd.int .u8) (w0 := w) w.heap.size rfl (.tmp 32) (.tmp 33) 31 5 (.int .u8 0) 1 rfl Tryd.underlying31 info5 rfl (by decide) (by omega) (.slice A xs.length c) xs 0 [.int .u8 0] (fun _ => True) (fun _ => False) rfl rfl ?aP (fun _ h => h.elim) ?aF ?aO ?aB ?aS ?aL ?_; (case aP => exact rfl); (case aB => exact pw_below_drewN HM.out.bel _); (case aF => exact (fun _ _ => trivial)); (case aO => exact Kd.R_drewN HO.out _); (case aS => exact HM.out.bel.size); (case aL => have := HBB.out; have := HXL.out; have := HLT.out; have := rzeros_le bs.length; omega); intro v3 w3 ho hb3 hg hat; have HM3 := z_ ((HM.out.below (pw_below_drewN (Below.refl _ _) q)).grown (Kd.R_drewN HO.out q) hg hb3); have HO3 := z_ ho; clear ho hb3 hg hat HM HO)))
      have hxl := HXL.out
      have hlt := HLT.out
      have hz := HZ.out
      have hl1 : (xs ++ [0]).length = xs.length + 1 := by simp
      have he : xs ++ [0] = rpad bs (k + 1) := by rw [HXS.out]; simp [rpad, List.replicate_succ']
      obtain ⟨A3, c3, rfl⟩ := Kd.R_slice HO3.out
      refine ⟨⟨k + 1, by omega, by rw [<- he]; exact HO3, HM3⟩, ?_⟩
      show 64 * rblocks bs.length - (xs ++ [0]).length < 64 * rblocks bs.length - xs.length
      omega
    · have hd : decide ((xs.length : Int) < 64 * rb - 8) = false := by have := HRB.out; simp; omega
      have hkz : k = rzeros bs.length := by omega
      rw [hkz] at HXS
      clear hlt hxs hxl hz hk hkz
      go_wp2_with fail
      refine (annalsref01_Blocks.calls (bs.length : Int) rb _ HF.out).mono ?_
      rintro e2 w2 ⟨rfl, hdr⟩
      obtain ⟨q, rfl⟩ := hdr.out
      clear hdr
      go_wp2_with fail
      replace HO := z_ (Kd.R_drewN HO.out q)
      replace HM := z_ (HM.out.below (pw_below_drewN (Below.refl _ _) q))
      obtain ⟨W, hW⟩ : ∃ W, W = wr.drewN q := ⟨_, rfl⟩
      rw [<- hW] at HO HM
      rw [<- hW]
      clear hW hd HXL HZ
      obtain ⟨vt, hvt⟩ : ∃ vt, vt = Value.slice A xs.length c := ⟨_, rfl⟩
      rw [<- hvt] at HO
      rw [<- hvt]
      clear hvt
      go_loopw [5, 6] (fun v5 v6 wr => ∃ (k : Nat) (i : Int), Aside0 (k <= 8 /\ i = 56 - 8 * (k : Int)) /\ v6 = .int .i64 i /\ -8 <= i /\ i <= 56 /\ Aside0 (Kd.R (Kd.int .u8) 5 wr w.heap.size (fun _ => True) v5 (xs ++ rlen bs.length k)) /\ Aside0 (RefMem w wr g3 g4 shaFirst)) (fun _ v6 _ => (intOf v6 + 8).toNat)
      case atStart => exact ⟨0, 56, ⟨by omega, by omega⟩, rfl, by omega, by omega, by rw [rlen, List.append_nil]; exact HO, HM⟩
      case round =>
        clear HO HM
        obtain ⟨k, i, HK, rfl, hi0, hi1, HO, HM⟩ := hrel
        obtain ⟨A5, c5, rfl⟩ := Kd.R_slice HO.out
        obtain ⟨ys, hys⟩ : ∃ ys, ys = xs ++ rlen bs.length k := ⟨_, rfl⟩
        have hyl : ys.length <= bs.length + 1 + 64 + 8 := by
          have := HK.out
          have := rzeros_le bs.length
          rw [hys, List.length_append, rlen_length, HXS.out, rpad_length]
          omega
        rw [<- hys] at HO
        rw [<- hys]
        have HYS := z_ hys
        have HYL := z_ hyl
        clear hys hyl
        by_cases hi : 0 <= i
        · have hd : decide (0 <= i) = true := decide_eq_true hi
          obtain ⟨b, hb⟩ : ∃ b, b = (8 * (bs.length : Int)) / 2 ^ i.toNat := ⟨_, rfl⟩
          have hq : (8 * (bs.length : Int)) / 2 ^ i.toNat = b := hb.symm
          have hi64 : i <= 64 := by omega
          have HB := z_ hb
          clear hb
          go_wp2_with (first | ((with_reducible refine gate_builtin (b := .append) (xs := #[.tmp 39, .tmp 47]) rfl ?_); go_must (at_builtin; refine Kd.R_append (Kd.int .u8) (w0 := w) w.heap.size rfl (.tmp 39) (.tmp 47) 31 5 (.int .u8 0) 1 rfl Tryd.underlying31 info5 rfl (by decide) (by omega) (.slice A5 ys.length c5) ys (b % 256) [.int .u8 (b % 256)] (fun _ => True) (fun _ => False) rfl rfl ?aP (fun _ h => h.elim) ?aF ?aO ?aB ?aS ?aL ?_; (case aP => exact rfl); (case aB => exact HM.out.bel); (case aF => exact (fun _ _ => trivial)); (case aO => exact HO.out); (case aS => exact HM.out.bel.size); (case aL => have := HBB.out; have := HYL.out; omega); intro v3 w3 ho hb3 hg hat; have HM3 := z_ (HM.out.grown HO.out hg hb3); have HO3 := z_ ho; clear ho hb3 hg hat HM HO)))
          have hk := HK.out
          have he : ys ++ [b % 256] = xs ++ rlen bs.length (k + 1) := by rw [HYS.out, HB.out, hk.2, rlen, List.append_assoc]
          refine ⟨⟨k + 1, i - 8, ⟨by omega, by omega⟩, by go_num, by omega, by omega, by rw [<- he]; exact HO3, HM3⟩, by simp only [intOf]; omega⟩
        · have hd : decide (0 <= i) = false := decide_eq_false hi
          have hk8 : k = 8 := by have := HK.out; omega
          rw [hk8] at HYS
          have hT : ys = rtext bs := by rw [HYS.out, HXS.out]; rfl
          clear hi0 hi1 hk8 HYL
          obtain rfl := hT
          clear HYS
          obtain ⟨T, hT⟩ : ∃ T, T = rtext bs := ⟨_, rfl⟩
          have hTl : T.length = 64 * rblocks bs.length := by rw [hT]; exact rtext_length bs
          rw [<- hT] at HO
          rw [<- hT]
          have HT := z_ hT
          have HTL := z_ hTl
          clear hT hTl hi
          go_wp2_with fail
          clear hd
          go_loopw [7] (fun v7 wr => ∃ m p : Nat, m <= rblocks bs.length /\ Aside0 (p = 64 * m) /\ v7 = .int .i64 (p : Int) /\ Aside0 (RefMem w wr g3 g4 (rsums T m).list) /\ Aside0 (Kd.R (Kd.int .u8) 5 wr w.heap.size (fun _ => True) (.slice A5 T.length c5) T)) (fun v7 _ => 64 * rblocks bs.length - (intOf v7).toNat)
          case atStart => exact ⟨0, 0, by omega, ⟨rfl⟩, rfl, HM, HO⟩
          case round =>
            clear HM HO
            obtain ⟨m, p, hm, HP, rfl, HM, HO⟩ := hrel
            by_cases hlt : m < rblocks bs.length
            · have hd : decide (p < T.length) = true := by have := HTL.out; have := HP.out; simp; omega
              have hp0 : (p : Int) <= 562949953421312 := by have := HBB.out; have := HP.out; unfold rblocks at hlt; omega
              obtain ⟨S, hS⟩ : ∃ x, x = rsums T m := ⟨_, rfl⟩
              rw [<- hS] at HM
              have HS := z_ hS
              obtain ⟨c0, c1, c2, c3, c4, c5', c6, c7⟩ := IsSums.cells HM.out.h3
              have hg3l : g3 < wr.heap.size := HM.out.h3.lt
              have HLT := z_ hlt
              clear hS hlt hm
              go_wp2_with fail
              clear c0 c1 c2 c3 c4 c5' c6 c7
              refine name2 (fun W4 hW4 => ?_)
              have HN : RefMem2 w W4 g3 g4 wr.heap.size (wr.heap.size + 1) S.list (rws T p 0) (rrounds T p S 0) (.slice A5 T.length c5) T := RefMem2.start HM.out HO.out hW4 rfl rfl
              obtain ⟨g8, hg8⟩ : ∃ g, g = wr.heap.size := ⟨_, rfl⟩
              rw [<- hg8] at HN
              rw [<- hg8]
              obtain ⟨g9, hg9⟩ : ∃ g, g = g8 + 1 := ⟨_, rfl⟩
              rw [<- hg9] at HN
              rw [<- hg9]
              replace HN := z_ HN
              clear hg8 hg9 hW4 hd hg3l
              go_loopw [56] (fun v56 wq => ∃ i : Nat, i <= 64 /\ v56 = .int .i64 (i : Int) /\ Aside0 (RefMem2 w wq g3 g4 g8 g9 S.list (rws T p i) (rrounds T p S i) (.slice A5 T.length c5) T)) (fun v56 _ => 64 - (intOf v56).toNat)
              case atStart => exact ⟨0, by omega, rfl, HN⟩
              case round =>
                clear HN
                obtain ⟨i, hi, rfl, HN⟩ := hrel
                by_cases hi64 : i < 64
                · have hd : decide ((i : Int) < 64) = true := by simp; omega
                  have HI64 := z_ hi64
                  have hwl : (rws T p i).length = 64 := rws_length _ _ _
                  have hTl := HTL.out
                  have hpm := HP.out
                  by_cases hi16 : i < 16
                  · have HI16 := z_ hi16
                    have hd2 : decide ((i : Int) < 16) = true := by simp; omega
                    obtain ⟨j, hj⟩ : ∃ j : Nat, j = p + 4 * i := ⟨_, rfl⟩
                    have e1 : (p : Int) + 4 * (i : Int) = (j : Int) := by omega
                    have hjm : j + 4 <= T.length := by have := HLT.out; omega
                    obtain ⟨_, hcap, hC⟩ := Kd.R_reads' HN.out.txt
                    obtain ⟨i0, hi0, _, hsz0, _⟩ := info_parts info5
                    obtain ⟨A2, hcut, hA2, hC2⟩ := print_drop_of (P := Tryd.prog) (Value.int .u8) 0 31 5 .i64 Tryd.underlying31 hi0 hsz0 A5 c5 T (j : Int) (by omega) (by omega) hcap
                    have HA2 := z_ (Kd.C_of_reads (h1 := fun _ => rfl) (hA2 _ (Kd.reads_of_C hC)))
                    have HC2 := z_ hC2
                    rw [Int.toNat_natCast] at HA2 HC2 hcut
                    have HJ := z_ hj
                    have hdl : 4 <= (T.drop j).length := by rw [List.length_drop]; omega
                    obtain ⟨x, hx⟩ : ∃ x, x = rword (T.drop j) := ⟨_, rfl⟩
                    have HX := z_ (rword_f _ hdl)
                    rw [<- hx] at HX
                    have HXX := z_ hx
                    have hcw := HN.out.h8.cell i (by omega)
                    have hfw := HN.out.h8.frozen i
                    have hi64' : (i : Int) < 64 := by omega
                    have hjl : (j : Int) <= (T.length : Int) := by omega
                    clear hA2 hC2 hi0 hsz0 hcap hC hj hjm hdl hx hwl hTl hpm hi64 hi16 hi
                    go_wp2_with fail
                    refine (word_at A2 (c5 - j) T j x _ HA2.out HC2.out HX.out).mono ?_
                    rintro e2 w2 ⟨rfl, hdr⟩
                    obtain ⟨q, rfl⟩ := hdr.out
                    clear hdr
                    go_wp2_with fail
                    have he : rws T p (i + 1) = (rws T p i).set i x := by
                      rw [HXX.out, HJ.out]
                      simp only [rws]
                      rw [if_pos HI16.out]
                    obtain ⟨V, hV⟩ : ∃ a, a = rrounds T p S i := ⟨_, rfl⟩
                    have HVV := z_ hV
                    rw [<- hV] at HN
                    replace HN : Aside0 (RefMem2 w ((wr.drewN q).setCell ⟨g8, i, none⟩ (.int .u32 x)) g3 g4 g8 g9 S.list (rws T p (i + 1)) V (.slice A5 T.length c5) T) := ⟨by rw [he]; exact (HN.out.drewN q).set8 i x⟩
                    clear hV he hcut hcw hfw
                    refine still_tail_at 8 (by kernel_rfl) (by kernel_rfl) (fun W hW => ?_)
                    replace HN : Aside0 (RefMem2 w W g3 g4 g8 g9 S.list (rws T p (i + 1)) V (.slice A5 T.length c5) T) := ⟨by rw [hW]; exact HN.out.drew⟩
                    clear hW
                    obtain ⟨c0, c1, c2, c3, c4, c5', c6, c7⟩ := IsSums.cells HN.out.h9
                    obtain ⟨ai, hai⟩ : ∃ a, a = shaAdded.getD i 0 := ⟨_, rfl⟩
                    obtain ⟨xi, hxi⟩ : ∃ a, a = (rws T p (i + 1)).getD i 0 := ⟨_, rfl⟩
                    have ca := HN.out.mem.h4.cell i (by have := HI64.out; show i < 64; omega)
                    have cx := HN.out.h8.cell i (by rw [rws_length]; exact HI64.out)
                    rw [<- hai] at ca
                    rw [<- hxi] at cx
                    have HAX := z_ (And.intro hai hxi)
                    clear hai hxi
                    simp only [List.take_succ_cons, List.take_zero, List.drop_succ_cons, List.drop_zero]
                    repeat still_step
                    refine wpStill_nil ?_
                    go_wp2_with fail
                    refine (round_calls2 V ((ai + xi) % 4294967296) _).mono ?_
                    rintro e3 w3 ⟨rfl, hB3⟩
                    replace HN : Aside0 (RefMem2 w w3 g3 g4 g8 g9 S.list (rws T p (i + 1)) V (.slice A5 T.length c5) T) := ⟨HN.out.below hB3⟩
                    clear hB3 c0 c1 c2 c3 c4 c5' c6 c7 ca cx
                    obtain ⟨V2, hV2⟩ : ∃ a, a = V.rround ((ai + xi) % 4294967296) := ⟨_, rfl⟩
                    rw [<- hV2]
                    have HV2 := z_ hV2
                    clear hV2
                    obtain ⟨c0, c1, c2, c3, c4, c5', c6, c7⟩ := IsSums.cells HN.out.h9
                    have f0 := HN.out.h9.frozen 0
                    have f1 := HN.out.h9.frozen 1
                    have f2 := HN.out.h9.frozen 2
                    have f3 := HN.out.h9.frozen 3
                    have f4 := HN.out.h9.frozen 4
                    have f5 := HN.out.h9.frozen 5
                    have f6 := HN.out.h9.frozen 6
                    have f7 := HN.out.h9.frozen 7
                    go_wp2_with fail
                    have hN2 := HN.out.put9 V2
                    have hr : rrounds T p S (i + 1) = V2 := by rw [HV2.out, HAX.out.1, HAX.out.2, HVV.out]; rfl
                    refine ⟨⟨i + 1, by have := HI64.out; omega, by go_num, by rw [hr]; exact ⟨hN2⟩⟩, by have := HI64.out; simp only [intOf]; omega⟩
                  · have HI16 := z_ hi16
                    have hd2 : decide ((i : Int) < 16) = false := by simp; omega
                    have pj : 0 <= (i : Int) := by omega
                    have qj : (i : Int) < 64 := by omega
                    obtain ⟨xs9, hxs9⟩ : ∃ xs, xs = rws T p i := ⟨_, rfl⟩
                    have hx9l : xs9.length = 64 := by rw [hxs9]; exact rws_length _ _ _
                    rw [<- hxs9] at HN
                    have HXS9 := z_ hxs9
                    obtain ⟨j2, hj2⟩ : ∃ x, x = i - 2 := ⟨_, rfl⟩
                    have d2 := HN.out.h8.cell j2 (by omega)
                    obtain ⟨x2, hx2⟩ : ∃ x, x = xs9.getD j2 0 := ⟨_, rfl⟩
                    rw [<- hx2] at d2
                    have Hj2 := z_ hj2
                    clear hj2
                    obtain ⟨j7, hj7⟩ : ∃ x, x = i - 7 := ⟨_, rfl⟩
                    have d7 := HN.out.h8.cell j7 (by omega)
                    obtain ⟨x7, hx7⟩ : ∃ x, x = xs9.getD j7 0 := ⟨_, rfl⟩
                    rw [<- hx7] at d7
                    have Hj7 := z_ hj7
                    clear hj7
                    obtain ⟨j15, hj15⟩ : ∃ x, x = i - 15 := ⟨_, rfl⟩
                    have d15 := HN.out.h8.cell j15 (by omega)
                    obtain ⟨x15, hx15⟩ : ∃ x, x = xs9.getD j15 0 := ⟨_, rfl⟩
                    rw [<- hx15] at d15
                    have Hj15 := z_ hj15
                    clear hj15
                    obtain ⟨j16, hj16⟩ : ∃ x, x = i - 16 := ⟨_, rfl⟩
                    have d16 := HN.out.h8.cell j16 (by omega)
                    obtain ⟨x16, hx16⟩ : ∃ x, x = xs9.getD j16 0 := ⟨_, rfl⟩
                    rw [<- hx16] at d16
                    have Hj16 := z_ hj16
                    clear hj16
                    have HX := z_ (And.intro hx2 (And.intro hx7 (And.intro hx15 hx16)))
                    have hf := HN.out.h8.frozen i
                    have hcj := HN.out.h8.cell i (by omega)
                    obtain ⟨y1, hy1⟩ : ∃ y, y = (annalsref01_right.f x15 7).getD 0 := ⟨_, rfl⟩
                    obtain ⟨y2, hy2⟩ : ∃ y, y = (annalsref01_right.f x15 18).getD 0 := ⟨_, rfl⟩
                    obtain ⟨y3, hy3⟩ : ∃ y, y = (annalsref01_right.f x2 17).getD 0 := ⟨_, rfl⟩
                    obtain ⟨y4, hy4⟩ : ∃ y, y = (annalsref01_right.f x2 19).getD 0 := ⟨_, rfl⟩
                    have G1 := z_ (right_some x15 7 (by omega) (by omega))
                    have G2 := z_ (right_some x15 18 (by omega) (by omega))
                    have G3 := z_ (right_some x2 17 (by omega) (by omega))
                    have G4 := z_ (right_some x2 19 (by omega) (by omega))
                    rw [<- hy1] at G1
                    rw [<- hy2] at G2
                    rw [<- hy3] at G3
                    rw [<- hy4] at G4
                    have HY := z_ (And.intro hy1 (And.intro hy2 (And.intro hy3 hy4)))
                    clear hxs9 hx9l hx2 hx7 hx15 hx16 hy1 hy2 hy3 hy4 hwl hTl hpm hi64 hi16 hi
                    go_wp2_with fail
                    have w2 : IntKind.i64.wrap (j2 : Int) = (j2 : Int) := by have := Hj2.out; exact IntWalk.i64_in _ ⟨by omega, by omega⟩
                    have q2 : (j2 : Int) < 64 := by have := Hj2.out; omega
                    have p2 : 0 <= (j2 : Int) := by omega
                    have e2 : (i : Int) - 2 = (j2 : Int) := by have := Hj2.out; have := HI16.out; omega
                    have w7 : IntKind.i64.wrap (j7 : Int) = (j7 : Int) := by have := Hj7.out; exact IntWalk.i64_in _ ⟨by omega, by omega⟩
                    have q7 : (j7 : Int) < 64 := by have := Hj7.out; omega
                    have p7 : 0 <= (j7 : Int) := by omega
                    have e7 : (i : Int) - 7 = (j7 : Int) := by have := Hj7.out; have := HI16.out; omega
                    have w15 : IntKind.i64.wrap (j15 : Int) = (j15 : Int) := by have := Hj15.out; exact IntWalk.i64_in _ ⟨by omega, by omega⟩
                    have q15 : (j15 : Int) < 64 := by have := Hj15.out; omega
                    have p15 : 0 <= (j15 : Int) := by omega
                    have e15 : (i : Int) - 15 = (j15 : Int) := by have := Hj15.out; have := HI16.out; omega
                    have w16 : IntKind.i64.wrap (j16 : Int) = (j16 : Int) := by have := Hj16.out; exact IntWalk.i64_in _ ⟨by omega, by omega⟩
                    have q16 : (j16 : Int) < 64 := by have := Hj16.out; omega
                    have p16 : 0 <= (j16 : Int) := by omega
                    have e16 : (i : Int) - 16 = (j16 : Int) := by have := Hj16.out; have := HI16.out; omega
                    go_quiet (fail)
                    go_wp2_with fail
                    replace HN := z_ (HN.out.drewN nq)
                    obtain ⟨W5, hW5⟩ : ∃ W5, W5 = wr.drewN nq := ⟨_, rfl⟩
                    rw [<- hW5] at HN
                    rw [<- hW5]
                    clear hW5 d2 d7 d15 d16 hf hcj
                    have d7 := HN.out.h8.cell j7 (by have := HXS9.out; have := Hj7.out; rw [HXS9.out, rws_length]; have := HI64.out; omega)
                    have d16 := HN.out.h8.cell j16 (by rw [HXS9.out, rws_length]; have := Hj16.out; have := HI64.out; omega)
                    have hcj := HN.out.h8.cell i (by rw [HXS9.out, rws_length]; exact HI64.out)
                    have hf := HN.out.h8.frozen i
                    rw [<- HX.out.2.1] at d7
                    rw [<- HX.out.2.2.2] at d16
                    go_region_held3 (fun w' => w'.cell? ⟨g8, j7, none⟩ = some (.int .u32 x7) /\ w'.cell? ⟨g8, j16, none⟩ = some (.int .u32 x16)) (first | go_keep | exact ⟨cell_set_ne (by have := Hj7.out; omega) _ d7, cell_set_ne (by have := Hj16.out; omega) _ d16⟩) (first | (go_at_call 113; ((with_reducible refine (annalsref01_right.calls x15 7 y1 _ G1.out).mono ?_); rintro e w' ⟨rfl, ⟨m1, rfl⟩⟩)) | (go_at_call 113; ((with_reducible refine (annalsref01_right.calls x15 18 y2 _ G2.out).mono ?_); rintro e w' ⟨rfl, ⟨m2, rfl⟩⟩)) | (go_at_call 113; ((with_reducible refine (annalsref01_right.calls x2 17 y3 _ G3.out).mono ?_); rintro e w' ⟨rfl, ⟨m3, rfl⟩⟩)) | (go_at_call 113; ((with_reducible refine (annalsref01_right.calls x2 19 y4 _ G4.out).mono ?_); rintro e w' ⟨rfl, ⟨m4, rfl⟩⟩)))
                    go_wp2_with fail
                    obtain ⟨x, hx⟩ : ∃ x, x = IntKind.u32.wrap (IntKind.u32.wrap (IntKind.u32.wrap (x16 + Go.bits .xor .u32 (Go.bits .xor .u32 y1 y2) (x15 / 8)) + x7) + Go.bits .xor .u32 (Go.bits .xor .u32 y3 y4) (x2 / 1024)) := ⟨_, rfl⟩
                    rw [<- hx]
                    have hxn : x = rnext xs9 i := by
                      have hX := HX.out
                      have hY := HY.out
                      unfold rnext
                      rw [<- Hj15.out, <- Hj2.out, <- Hj16.out, <- Hj7.out, <- hX.1, <- hX.2.1, <- hX.2.2.1, <- hX.2.2.2]
                      simp only []
                      rw [<- hY.1, <- hY.2.1, <- hY.2.2.1, <- hY.2.2.2, hx]
                      simp only [IntKind.wrap_u32]
                      omega
                    have he : rws T p (i + 1) = xs9.set i x := by
                      rw [hxn, HXS9.out]
                      simp only [rws]
                      rw [if_neg HI16.out]
                    obtain ⟨V, hV⟩ : ∃ a, a = rrounds T p S i := ⟨_, rfl⟩
                    have HVV := z_ hV
                    rw [<- hV] at HN
                    replace HN : Aside0 (RefMem2 w ((W5.drewN (1 + m1 + m2 + m3 + m4)).setCell ⟨g8, i, none⟩ (.int .u32 x)) g3 g4 g8 g9 S.list (rws T p (i + 1)) V (.slice A5 T.length c5) T) := ⟨by rw [he]; exact (HN.out.drewN _).set8 i x⟩
                    clear hV he hx hxn d7 d16 hcj hf w2 q2 p2 e2 w7 q7 p7 e7 w15 q15 p15 e15 w16 q16 p16 e16
                    refine still_tail_at 8 (by kernel_rfl) (by kernel_rfl) (fun W hW => ?_)
                    replace HN : Aside0 (RefMem2 w W g3 g4 g8 g9 S.list (rws T p (i + 1)) V (.slice A5 T.length c5) T) := ⟨by rw [hW]; exact HN.out.drew⟩
                    clear hW
                    obtain ⟨c0, c1, c2, c3, c4, c5', c6, c7⟩ := IsSums.cells HN.out.h9
                    obtain ⟨ai, hai⟩ : ∃ a, a = shaAdded.getD i 0 := ⟨_, rfl⟩
                    obtain ⟨xi, hxi⟩ : ∃ a, a = (rws T p (i + 1)).getD i 0 := ⟨_, rfl⟩
                    have ca := HN.out.mem.h4.cell i (by have := HI64.out; show i < 64; omega)
                    have cx := HN.out.h8.cell i (by rw [rws_length]; exact HI64.out)
                    rw [<- hai] at ca
                    rw [<- hxi] at cx
                    have HAX := z_ (And.intro hai hxi)
                    clear hai hxi
                    simp only [List.take_succ_cons, List.take_zero, List.drop_succ_cons, List.drop_zero]
                    repeat still_step
                    refine wpStill_nil ?_
                    go_wp2_with fail
                    refine (round_calls2 V ((ai + xi) % 4294967296) _).mono ?_
                    rintro e3 w3 ⟨rfl, hB3⟩
                    replace HN : Aside0 (RefMem2 w w3 g3 g4 g8 g9 S.list (rws T p (i + 1)) V (.slice A5 T.length c5) T) := ⟨HN.out.below hB3⟩
                    clear hB3 c0 c1 c2 c3 c4 c5' c6 c7 ca cx
                    obtain ⟨V2, hV2⟩ : ∃ a, a = V.rround ((ai + xi) % 4294967296) := ⟨_, rfl⟩
                    rw [<- hV2]
                    have HV2 := z_ hV2
                    clear hV2
                    obtain ⟨c0, c1, c2, c3, c4, c5', c6, c7⟩ := IsSums.cells HN.out.h9
                    have f0 := HN.out.h9.frozen 0
                    have f1 := HN.out.h9.frozen 1
                    have f2 := HN.out.h9.frozen 2
                    have f3 := HN.out.h9.frozen 3
                    have f4 := HN.out.h9.frozen 4
                    have f5 := HN.out.h9.frozen 5
                    have f6 := HN.out.h9.frozen 6
                    have f7 := HN.out.h9.frozen 7
                    go_wp2_with fail
                    have hN2 := HN.out.put9 V2
                    have hr : rrounds T p S (i + 1) = V2 := by rw [HV2.out, HAX.out.1, HAX.out.2, HVV.out]; rfl
                    refine ⟨⟨i + 1, by have := HI64.out; omega, by go_num, by rw [hr]; exact ⟨hN2⟩⟩, by have := HI64.out; simp only [intOf]; omega⟩
                · have hd : decide ((i : Int) < 64) = false := by simp; omega
                  have hie : i = 64 := by omega
                  clear hi hi64
                  obtain ⟨V, hV⟩ : ∃ a, a = rrounds T p S i := ⟨_, rfl⟩
                  rw [<- hV] at HN
                  rw [hie] at hV
                  have HVV := z_ hV
                  obtain ⟨WS, hWS⟩ : ∃ a, a = rws T p i := ⟨_, rfl⟩
                  rw [<- hWS] at HN
                  clear hV hWS hie
                  go_wp2_with fail
                  clear hd
                  go_loopw [117] (fun v117 wq => ∃ k : Nat, k <= 8 /\ v117 = .int .i64 (k : Int) /\ Aside0 (RefMem2 w wq g3 g4 g8 g9 (addW S.list V.list k) WS V (.slice A5 T.length c5) T)) (fun v117 _ => 8 - (intOf v117).toNat)
                  case atStart => exact ⟨0, by omega, rfl, HN⟩
                  case round =>
                    clear HN
                    obtain ⟨k, hk, rfl, HN⟩ := hrel
                    by_cases hk8 : k < 8
                    · have hd : decide ((k : Int) < 8) = true := by simp; omega
                      have HK8 := z_ hk8
                      have pk : 0 <= (k : Int) := by omega
                      have qk : (k : Int) < 8 := by omega
                      clear hk hk8
                      go_wp2_with fail
                      refine still_tail_at 8 (by kernel_rfl) (by kernel_rfl) (fun W hW => ?_)
                      replace HN : Aside0 (RefMem2 w W g3 g4 g8 g9 (addW S.list V.list k) WS V (.slice A5 T.length c5) T) := ⟨by rw [hW]; exact HN.out.drew⟩
                      clear hW
                      obtain ⟨x, hx⟩ : ∃ x, x = (addW S.list V.list k).getD k 0 := ⟨_, rfl⟩
                      obtain ⟨y, hy⟩ : ∃ y, y = V.list.getD k 0 := ⟨_, rfl⟩
                      have cx := HN.out.mem.h3.cell k (by rw [addW_length]; exact HK8.out)
                      have cy := HN.out.h9.cell k (by exact HK8.out)
                      have fx := HN.out.mem.h3.frozen k
                      rw [<- hx] at cx
                      rw [<- hy] at cy
                      have HXY := z_ (And.intro hx hy)
                      clear hx hy
                      simp only [List.take_succ_cons, List.take_zero, List.drop_succ_cons, List.drop_zero]
                      repeat still_step
                      refine wpStill_nil ?_
                      go_wp2_with fail
                      go_roundw
                      case measure => simp [intOf]; have := HK8.out; omega
                      case rel =>
                        refine ⟨k + 1, by have := HK8.out; omega, by go_num, ⟨?_⟩⟩
                        simp only [addW]
                        rw [<- HXY.out.1, <- HXY.out.2]
                        exact HN.out.set3 k _
                    · have hd : decide ((k : Int) < 8) = false := by simp; omega
                      obtain rfl : k = 8 := by omega
                      clear hk hk8
                      have hsum : (rsums T (m + 1)).list = addW S.list V.list 8 := by
                        simp only [rsums]
                        rw [Sums.of_list _ (by rw [addW_length]; rfl), <- HS.out, <- HP.out, <- HVV.out]
                      have HSUM := z_ hsum
                      clear hsum
                      go_wp2_with fail
                      have hlt := HLT.out
                      have hpm := HP.out
                      go_roundw
                      case measure => simp only [intOf]; omega
                      case rel => exact ⟨m + 1, p + 64, by omega, ⟨by omega⟩, by go_num, by rw [HSUM.out]; exact ⟨HN.out.mem⟩, ⟨HN.out.txt⟩⟩
            · have hd : decide (p < T.length) = false := by have := HTL.out; have := HP.out; simp; omega
              have hmb : m = rblocks bs.length := by omega
              obtain ⟨S, hS⟩ : ∃ x, x = rsums T m := ⟨_, rfl⟩
              rw [<- hS] at HM
              rw [hmb, HT.out] at hS
              have HS := z_ hS
              obtain ⟨c0, c1, c2, c3, c4, c5', c6, c7⟩ := IsSums.cells HM.out.h3
              clear hS hlt hm hmb
              go_wp2_with fail
              clear c0 c1 c2 c3 c4 c5' c6 c7 hd
              go_loopw [14, 130] (fun v14 v130 wq => ∃ k : Nat, k <= 8 /\ v130 = .int .i64 (k : Int) /\ Aside0 (Kd.R (Kd.int .u8) 5 wq w.heap.size (fun _ => True) v14 (rout S.list k)) /\ Aside0 (Below w.heap.size w wq)) (fun _ v130 _ => 8 - (intOf v130).toNat)
              case atStart => exact ⟨0, by omega, rfl, ⟨Kd.R_nil _ _ _ _ _⟩, ⟨HM.out.bel⟩⟩
              case round =>
                clear HM HO
                obtain ⟨k, hk, rfl, HO, HB⟩ := hrel
                obtain ⟨A6, c6, rfl⟩ := Kd.R_slice HO.out
                obtain ⟨ys, hys⟩ : ∃ ys, ys = rout S.list k := ⟨_, rfl⟩
                have hyl : ys.length = 4 * k := by rw [hys]; exact rout_length _ _
                rw [<- hys] at HO
                rw [<- hys]
                have HYS := z_ hys
                have HYL := z_ hyl
                clear hys hyl
                by_cases hk8 : k < 8
                · have hd : decide ((k : Int) < 8) = true := by simp; omega
                  have HK8 := z_ hk8
                  have qk : (k : Int) < 8 := by omega
                  have hix := words8_index S k hk8
                  obtain ⟨x, hx⟩ : ∃ x, x = S.list.getD k 0 := ⟨_, rfl⟩
                  rw [<- hx] at hix
                  have HX := z_ hx
                  clear hx hk hk8
                  go_wp2_with (first | ((with_reducible refine gate_builtin (b := .append) (xs := #[.tmp 133, .tmp 145]) rfl ?_); go_must (at_builtin; refine Kd.R_append_rows (Kd.int .u8) (w0 := w) w.heap.size rfl (.tmp 133) (.tmp 145) 31 5 (.int .u8 0) 1 rfl Tryd.underlying31 info5 rfl (by decide) (by omega) (.slice A6 ys.length c6) ys [x / 16777216 % 256, x / 65536 % 256, x / 256 % 256, x % 256] (some ⟨wr.heap.size, 0, none⟩) 4 4 (fun _ => True) (fun _ => False) rfl rfl ?aO ?aR (fun _ _ h => h) (fun _ h => h.elim) ?aF ?aB ?aS ?aL ?_; (case aR => exact IsBytes.C (xs := [x / 16777216 % 256, x / 65536 % 256, x / 256 % 256, x % 256]) (o := 0) (n := 4) (heap_alloc_new wr _) (by simp) (by decide)); (case aB => exact below_alloc HB.out _); (case aF => exact (fun _ _ => trivial)); (case aO => exact Kd.R_alloc HO.out _); (case aS => have := HB.out.size; simp; omega); (case aL => have := HYL.out; have := HK8.out; omega); intro v3 w3 ho hb3 hg hat; have HO3 := z_ ho; have HB3 := z_ hb3; clear ho hb3 hg hat)))
                  have hk8 := HK8.out
                  have he : ys ++ [x / 16777216 % 256, x / 65536 % 256, x / 256 % 256, x % 256] = rout S.list (k + 1) := by
                    simp only [rout]
                    rw [<- HYS.out, <- HX.out]
                  rw [he] at HO3
                  go_roundw
                  case measure => simp [intOf]; omega
                  case rel => exact ⟨k + 1, by omega, by go_num, HO3, HB3⟩
                · have hd : decide ((k : Int) < 8) = false := by simp; omega
                  obtain rfl : k = 8 := by omega
                  go_wp2_with fail
                  go_ret
                  have hfin : ys = refSum bs := by rw [HYS.out, HS.out]; rfl
                  rw [<- hfin]
                  exact ⟨_, rfl, HO.out, HB.out⟩
def annalsref01_Sum.f (l0 : List Int) : Option (List Int) := if l0.length <= 140737488355000 then some (refSum l0) else none
theorem annalsref01_Sum.calls (A0 : Option Addr) (c0 : Nat) (l0 : List Int) (r : List Int) (w : World) (hr0 : Kd.C (Kd.int .u8) w A0 l0.length l0) (hc0 : l0.length <= c0) (h : annalsref01_Sum.f l0 = some r) :
    Calls Tryd.prog 105 #[.slice A0 l0.length c0] w fun e w' => ∃ v0_ : Value, e = .returned (v0_) /\ Kd.R (Kd.int .u8) 5 w' w.heap.size (fun _ => True) v0_ r /\ Below w.heap.size w w' := by
  unfold annalsref01_Sum.f at h
  split at h
  case isFalse => cases h
  case isTrue hb =>
    obtain rfl := Option.some.inj h
    exact rsum_any A0 c0 l0 w hr0 hc0 hb
theorem wrap_u32 (n : Int) : IntKind.u32.wrap n = n % 4294967296 := IntKind.wrap_u32 n
def W32 (x : Int) : Prop := 0 <= x /\ x < 4294967296
def B (x : Int) : BitVec 32 := BitVec.ofInt 32 x
theorem B_toNat (x : Int) : (B x).toNat = (x % 4294967296).toNat := by
  unfold B; rw [BitVec.toNat_ofInt]; rfl
theorem B_inj {x y : Int} (hx : W32 x) (hy : W32 y) (h : B x = B y) : x = y := by
  have := congrArg BitVec.toNat h
  rw [B_toNat, B_toNat] at this
  unfold W32 at hx hy; omega
theorem B_of (v : BitVec 32) : B ((v.toNat : Int) % 4294967296) = v := by
  apply BitVec.eq_of_toNat_eq
  rw [B_toNat]
  have := v.isLt
  omega
theorem bits_W32 (op : BinOp) (x y : Int) : W32 (Go.bits op .u32 x y) := by
  unfold Go.bits W32
  rw [wrap_u32]
  omega
theorem B_xor (x y : Int) : B (Go.bits .xor .u32 x y) = B x ^^^ B y := by
  unfold Go.bits; rw [wrap_u32]; exact B_of _
theorem B_and (x y : Int) : B (Go.bits .and .u32 x y) = B x &&& B y := by
  unfold Go.bits; rw [wrap_u32]; exact B_of _
theorem B_or (x y : Int) : B (Go.bits .or .u32 x y) = B x ||| B y := by
  unfold Go.bits; rw [wrap_u32]; exact B_of _
theorem B_max : B IntKind.u32.max = BitVec.allOnes 32 := by decide
theorem choice_eq (e f g : Int) : Go.bits .xor .u32 (Go.bits .and .u32 e (Go.bits .xor .u32 f g)) g = Go.bits .xor .u32 (Go.bits .and .u32 e f) (Go.bits .and .u32 (Go.bits .xor .u32 IntKind.u32.max e) g) := by
  apply B_inj (bits_W32 _ _ _) (bits_W32 _ _ _)
  simp only [B_xor, B_and, B_max]
  ext i hi
  simp only [BitVec.getElem_xor, BitVec.getElem_and, BitVec.getElem_allOnes]
  cases (B e)[i] <;> cases (B f)[i] <;> cases (B g)[i] <;> rfl
theorem most_eq (a b c : Int) : Go.bits .or .u32 (Go.bits .and .u32 a (Go.bits .or .u32 b c)) (Go.bits .and .u32 b c) = Go.bits .xor .u32 (Go.bits .xor .u32 (Go.bits .and .u32 a b) (Go.bits .and .u32 a c)) (Go.bits .and .u32 b c) := by
  apply B_inj (bits_W32 _ _ _) (bits_W32 _ _ _)
  simp only [B_xor, B_and, B_or]
  ext i hi
  simp only [BitVec.getElem_xor, BitVec.getElem_and, BitVec.getElem_or]
  cases (B a)[i] <;> cases (B b)[i] <;> cases (B c)[i] <;> rfl
theorem bits_or_comm (x y : Int) : Go.bits .or .u32 x y = Go.bits .or .u32 y x := by
  apply B_inj (bits_W32 _ _ _) (bits_W32 _ _ _)
  simp only [B_or]
  exact BitVec.or_comm _ _
theorem and31 (a : Int) (h0 : 0 <= a) (h1 : a < 32) : Go.bits .and .u64 (IntKind.u64.wrap a) 31 = a := by
  have e : IntKind.u64.wrap a = a := by rw [IntKind.wrap_u64]; omega
  rw [e]
  unfold Go.bits
  have ha : (BitVec.ofInt IntKind.u64.bits a &&& BitVec.ofInt IntKind.u64.bits 31).toNat = a.toNat := by
    have h7 : BitVec.ofInt IntKind.u64.bits 31 = BitVec.ofNat 64 31 := rfl
    rw [h7]
    have h1 : (BitVec.ofInt 64 a).toNat = (a % 18446744073709551616).toNat := by rw [BitVec.toNat_ofInt]; rfl
    show ((BitVec.ofInt 64 a) &&& BitVec.ofNat 64 31).toNat = _
    rw [BitVec.toNat_and, h1, BitVec.toNat_ofNat]
    have h2 := Nat.and_two_pow_sub_one_eq_mod (a % 18446744073709551616).toNat 5
    have h3 : (31 % 2 ^ 64 : Nat) = 2 ^ 5 - 1 := by decide
    rw [h3, h2]
    omega
  simp only [ha]
  rw [IntKind.wrap_u64]
  omega
theorem rot_eq (x a : Int) (h : 0 < a /\ a < 32) : bits_RotateLeft32.f x (wrap64 (32 - a)) = some (Go.bits .or .u32 (shl .u32 x (32 - a)) (shr .u32 x a)) := by
  unfold bits_RotateLeft32.f
  have e : wrap64 (32 - a) = 32 - a := by unfold wrap64; omega
  have e2 : IntKind.u64.wrap (32 - (32 - a)) = a := by rw [IntKind.wrap_u64]; omega
  rw [e, and31 _ (by omega) (by omega), e2, if_pos (by omega), if_pos (by omega)]
theorem right_eq (x a : Int) (h : 0 < a /\ a < 32) : (annalsref01_right.f x a).getD 0 = Go.bits .or .u32 (shl .u32 x (32 - a)) (shr .u32 x a) := by
  unfold annalsref01_right.f
  have e : wrap64 (32 - a) = 32 - a := by unfold wrap64; omega
  rw [e, if_pos (by omega), if_pos (by omega), bits_or_comm]
  rfl
theorem sigma_R (x a b c : Int) (ha : 0 < a /\ a < 32) (hb : 0 < b /\ b < 32) (hc : 0 < c /\ c < 32) : (sha_sigma.f x a b c).getD 0 = Go.bits .xor .u32 (Go.bits .xor .u32 ((annalsref01_right.f x a).getD 0) ((annalsref01_right.f x b).getD 0)) ((annalsref01_right.f x c).getD 0) := by
  unfold sha_sigma.f
  rw [rot_eq x a ha, rot_eq x b hb, rot_eq x c hc, right_eq x a ha, right_eq x b hb, right_eq x c hc]
  rfl
theorem gamma_R (x a b c : Int) (ha : 0 < a /\ a < 32) (hb : 0 < b /\ b < 32) (hc : 0 <= c) : (sha_gamma.f x a b c).getD 0 = Go.bits .xor .u32 (Go.bits .xor .u32 ((annalsref01_right.f x a).getD 0) ((annalsref01_right.f x b).getD 0)) (shr .u32 x c) := by
  unfold sha_gamma.f
  rw [rot_eq x a ha, rot_eq x b hb, right_eq x a ha, right_eq x b hb]
  simp only [Option.bind_some]
  rw [if_pos hc]
  rfl
theorem gamma_R10 (x : Int) : (sha_gamma.f x 17 19 10).getD 0 = Go.bits .xor .u32 (Go.bits .xor .u32 ((annalsref01_right.f x 17).getD 0) ((annalsref01_right.f x 19).getD 0)) (x / 1024) := gamma_R x 17 19 10 (by omega) (by omega) (by omega)
theorem gamma_R3 (x : Int) : (sha_gamma.f x 7 18 3).getD 0 = Go.bits .xor .u32 (Go.bits .xor .u32 ((annalsref01_right.f x 7).getD 0) ((annalsref01_right.f x 18).getD 0)) (x / 8) := gamma_R x 7 18 3 (by omega) (by omega) (by omega)
def BytesOk (bs : List Int) : Prop := ∀ x ∈ bs, 0 <= x /\ x <= 255
theorem rword_eq (ts : List Int) (h : 4 <= ts.length) (hb : BytesOk ts) : rword ts = ((ts.getD 0 0 * 256 + ts.getD 1 0) * 256 + ts.getD 2 0) * 256 + ts.getD 3 0 := by
  unfold rword annalsref01_word.f
  rw [if_pos (by omega), if_pos (by omega), if_pos (by omega), if_pos (by omega), Option.getD_some]
  have g (j : Nat) : 0 <= ts.getD j 0 /\ ts.getD j 0 <= 255 := by
    rw [List.getD_eq_getElem?_getD]
    by_cases hj : j < ts.length
    · rw [List.getElem?_eq_getElem hj]; exact hb _ (List.getElem_mem hj)
    · rw [List.getElem?_eq_none (by omega)]; simp
  have g0 := g 0
  have g1 := g 1
  have g2 := g 2
  have g3 := g 3
  unfold rd
  simp only [Int.toNat_zero, Int.toNat_one, show (2 : Int).toNat = 2 from rfl, show (3 : Int).toNat = 3 from rfl]
  omega
theorem round_eq (s : Sums) (add wi : Int) : s.round add wi = s.rround ((add + wi) % 4294967296) := by
  unfold Sums.round Sums.rround
  dsimp only
  rw [sigma_R s.e 6 11 25 (by omega) (by omega) (by omega), sigma_R s.a 2 13 22 (by omega) (by omega) (by omega), choice_eq, most_eq]
  congr 1 <;> omega
theorem or_bytes (x b : Int) (h0 : 0 <= x) (h1 : x < 16777216) (b0 : 0 <= b) (b1 : b <= 255) : Go.bits .or .u32 (x * 256 % 4294967296) (b % 4294967296) = x * 256 + b := by
  have e1 : x * 256 % 4294967296 = x * 256 := by omega
  have e2 : b % 4294967296 = b := by omega
  rw [e1, e2]
  unfold Go.bits
  rw [wrap_u32]
  obtain ⟨n, rfl⟩ : ∃ n : Nat, x = n := ⟨x.toNat, by omega⟩
  obtain ⟨m, rfl⟩ : ∃ n : Nat, b = n := ⟨b.toNat, by omega⟩
  have hn : (BitVec.ofInt IntKind.u32.bits ((n : Int) * 256)).toNat = n * 2 ^ 8 := by
    show (BitVec.ofInt 32 ((n : Int) * 256)).toNat = _
    rw [BitVec.toNat_ofInt]
    omega
  have hm : (BitVec.ofInt IntKind.u32.bits (m : Int)).toNat = m := by
    show (BitVec.ofInt 32 (m : Int)).toNat = _
    rw [BitVec.toNat_ofInt]
    omega
  simp only [BitVec.toNat_or, hn, hm]
  have h3 : n * 2 ^ 8 ||| m = n * 2 ^ 8 + m := by
    rw [Nat.mul_comm]
    exact (Nat.two_pow_add_eq_or_of_lt (by omega) n).symm
  rw [h3]
  omega
theorem getD_set_self (xs : List Int) (i : Nat) (x : Int) (h : i < xs.length) : (xs.set i x).getD i 0 = x := by
  rw [List.getD_eq_getElem?_getD, List.getElem?_set_self h]; rfl
theorem getD_set_ne (xs : List Int) (i j : Nat) (x : Int) (h : i ≠ j) : (xs.set i x).getD j 0 = xs.getD j 0 := by
  rw [List.getD_eq_getElem?_getD, List.getElem?_set_ne h, <- List.getD_eq_getElem?_getD]
theorem rws_late (ts : List Int) (p m j : Nat) (h : m <= j) : (rws ts p m).getD j 0 = 0 := by
  induction m with
  | zero =>
    show (List.replicate 64 (0 : Int)).getD j 0 = 0
    rw [List.getD_eq_getElem?_getD, List.getElem?_replicate]
    split <;> rfl
  | succ m ih =>
    simp only [rws]
    rw [getD_set_ne _ _ _ _ (by omega)]
    exact ih (by omega)
theorem rws_keep (ts : List Int) (p m j : Nat) (h : j < m) : (rws ts p m).getD j 0 = (rws ts p (j + 1)).getD j 0 := by
  induction m with
  | zero => omega
  | succ m ih =>
    by_cases hj : j = m
    · rw [hj]
    · rw [<- ih (by omega)]
      simp only [rws]
      rw [getD_set_ne _ _ _ _ (by omega)]
theorem BytesOk.get {bs : List Int} (h : BytesOk bs) (j : Nat) : 0 <= bs.getD j 0 /\ bs.getD j 0 <= 255 := by
  rw [List.getD_eq_getElem?_getD]
  by_cases hj : j < bs.length
  · rw [List.getElem?_eq_getElem hj]; exact h _ (List.getElem_mem hj)
  · rw [List.getElem?_eq_none (by omega)]; simp
theorem BytesOk.drop {bs : List Int} (h : BytesOk bs) (j : Nat) : BytesOk (bs.drop j) := fun x hx => h x (List.mem_of_mem_drop hx)
theorem getD_drop (xs : List Int) (p j : Nat) : (xs.drop p).getD j 0 = xs.getD (p + j) 0 := by
  rw [List.getD_eq_getElem?_getD, List.getElem?_drop, <- List.getD_eq_getElem?_getD]
theorem sched1_rws (ts : List Int) (p : Nat) (hl : p + 64 <= ts.length) (hb : BytesOk ts) (m : Nat) (hm : m <= 16) : sched1 (ts.drop p) (4 * m) = rws ts p m := by
  induction m with
  | zero => rfl
  | succ m ih =>
    have ih := ih (by omega)
    obtain ⟨X, hX⟩ : ∃ X, X = rws ts p m := ⟨_, rfl⟩
    have hXl : X.length = 64 := by rw [hX]; exact rws_length _ _ _
    have hX0 : X.getD m 0 = 0 := by rw [hX]; exact rws_late _ _ _ _ (Nat.le_refl _)
    rw [<- hX] at ih
    have r (j : Nat) : 0 <= (ts.drop p).getD j 0 /\ (ts.drop p).getD j 0 <= 255 := (hb.drop p).get j
    have step (k : Nat) (Y : List Int) (y : Int) (hk : k / 4 = m) (hY : sched1 (ts.drop p) k = Y.set m y) (hYl : Y.length = 64) (h0 : 0 <= y) (h1 : y < 16777216) :
        sched1 (ts.drop p) (k + 1) = Y.set m (y * 256 + (ts.drop p).getD k 0) := by
      simp only [sched1]
      rw [hk, hY, getD_set_self _ _ _ (by omega)]
      unfold rd
      rw [Int.toNat_natCast, or_bytes _ _ h0 h1 (r k).1 (r k).2, List.set_set]
    have r0 := r (4 * m)
    have r1 := r (4 * m + 1)
    have r2 := r (4 * m + 2)
    have r3 := r (4 * m + 3)
    have s0 : sched1 (ts.drop p) (4 * m) = X.set m 0 := by
      rw [ih]
      apply List.ext_getElem?
      intro j
      by_cases hj : m = j
      · subst hj
        rw [List.getElem?_set_self (by omega), List.getElem?_eq_getElem (by omega)]
        rw [List.getD_eq_getElem?_getD, List.getElem?_eq_getElem (by omega)] at hX0
        exact congrArg some hX0
      · rw [List.getElem?_set_ne hj]
    have s1 := step (4 * m) X 0 (by omega) s0 hXl (by omega) (by omega)
    have s2 := step (4 * m + 1) X _ (by omega) s1 hXl (by omega) (by omega)
    have s3 := step (4 * m + 2) X _ (by omega) s2 hXl (by omega) (by omega)
    have s4 := step (4 * m + 3) X _ (by omega) s3 hXl (by omega) (by omega)
    show sched1 (ts.drop p) (4 * m + 4) = _
    rw [s4]
    simp only [rws]
    rw [if_pos (by omega), <- hX, rword_eq _ (by rw [List.length_drop]; omega) (hb.drop _)]
    simp only [getD_drop]
    rw [show p + 4 * m + 0 = p + 4 * m from rfl, show p + (4 * m + 1) = p + 4 * m + 1 from rfl, show p + (4 * m + 2) = p + 4 * m + 2 from rfl, show p + (4 * m + 3) = p + 4 * m + 3 from rfl]
    simp only [Int.zero_mul, Int.zero_add]
theorem sched2At_eq (ws : List Int) (i : Nat) : sched2At ws i = rnext ws i := by
  unfold sched2At rnext
  simp only [gamma_R10, gamma_R3]
  omega
theorem sched2_rws (ts : List Int) (p k : Nat) : sched2 (rws ts p 16) k = rws ts p (16 + k) := by
  induction k with
  | zero => rfl
  | succ k ih =>
    simp only [sched2]
    rw [ih, show 16 + (k + 1) = (16 + k) + 1 from rfl]
    simp only [rws]
    rw [if_neg (by omega), Nat.add_comm 16 k, sched2At_eq]
theorem schedule_rws (ts : List Int) (p : Nat) (hl : p + 64 <= ts.length) (hb : BytesOk ts) : schedule (ts.drop p) = rws ts p 64 := by
  unfold schedule
  rw [show 64 = 4 * 16 from rfl, sched1_rws ts p hl hb 16 (by omega), sched2_rws]
theorem rounds_eq (ts : List Int) (p : Nat) (h : Sums) (i : Nat) (hi : i <= 64) : Sums.rounds (rws ts p 64) h i = rrounds ts p h i := by
  induction i with
  | zero => rfl
  | succ i ih =>
    simp only [Sums.rounds, rrounds]
    rw [ih (by omega), round_eq, rws_keep ts p 64 i (by omega)]
theorem addW_get (xs ys : List Int) (k : Nat) (hk : k <= xs.length) (j : Nat) : (addW xs ys k).getD j 0 = if j < k then (xs.getD j 0 + ys.getD j 0) % 4294967296 else xs.getD j 0 := by
  induction k with
  | zero => simp [addW]
  | succ k ih =>
    have ih := ih (by omega)
    simp only [addW]
    by_cases hj : k = j
    · subst hj
      rw [getD_set_self _ _ _ (by rw [addW_length]; omega), ih, if_neg (by omega), if_pos (by omega)]
    · rw [getD_set_ne _ _ _ _ hj, ih]
      by_cases h : j < k
      · rw [if_pos h, if_pos (by omega)]
      · rw [if_neg h, if_neg (by omega)]
theorem ext_getD (xs ys : List Int) (hl : xs.length = ys.length) (h : ∀ j, j < xs.length -> xs.getD j 0 = ys.getD j 0) : xs = ys := by
  apply List.ext_getElem hl
  intro j h1 h2
  have := h j h1
  rwa [List.getD_eq_getElem?_getD, List.getD_eq_getElem?_getD, List.getElem?_eq_getElem h1, List.getElem?_eq_getElem h2] at this
theorem addW_comm (xs ys : List Int) (hx : xs.length = 8) (hy : ys.length = 8) : addW xs ys 8 = addW ys xs 8 := by
  apply ext_getD
  · rw [addW_length, addW_length, hx, hy]
  · intro j hj
    rw [addW_length] at hj
    rw [addW_get _ _ _ (by omega), addW_get _ _ _ (by omega), if_pos (by omega), if_pos (by omega), Int.add_comm]
theorem take_rws (ts : List Int) (p : Nat) (s : Sums) (hl : p + 64 <= ts.length) (hb : BytesOk ts) : s.take (ts.drop p) = addW s.list (rrounds ts p s 64).list 8 := by
  unfold Sums.take
  rw [schedule_rws ts p hl hb, rounds_eq _ _ _ _ (Nat.le_refl _)]
  exact addW_comm _ _ rfl rfl
theorem sched1_congr (a b : List Int) (k : Nat) (h : ∀ j, j < k -> a.getD j 0 = b.getD j 0) : sched1 a k = sched1 b k := by
  induction k with
  | zero => rfl
  | succ k ih =>
    simp only [sched1]
    unfold rd
    rw [ih (fun j hj => h j (by omega)), Int.toNat_natCast, h k (by omega)]
theorem take_congr (s : Sums) (a b : List Int) (h : ∀ j, j < 64 -> a.getD j 0 = b.getD j 0) : s.take a = s.take b := by
  unfold Sums.take schedule
  rw [sched1_congr a b 64 h]
theorem blocks_rsums (ts bs : List Int) (p m : Nat) (S : Sums) (hS : S = rsums ts p) (hl : 64 * (p + m) <= ts.length) (hb : BytesOk ts)
    (hg : ∀ i j, i < m -> j < 64 -> (bs.drop (64 * i)).getD j 0 = ts.getD (64 * (p + i) + j) 0) : Sums.blocks S bs m = rsums ts (p + m) := by
  induction m with
  | zero => exact hS
  | succ m ih =>
    have ih := ih (by omega) (fun i j hi hj => hg i j (by omega) hj)
    simp only [Sums.blocks]
    rw [ih, show p + (m + 1) = (p + m) + 1 from rfl]
    simp only [rsums]
    rw [<- take_rws ts (64 * (p + m)) (rsums ts (p + m)) (by omega) hb]
    refine congrArg Sums.of (take_congr _ _ _ fun j hj => ?_)
    rw [hg m j (by omega) hj, getD_drop]
theorem tailLen_length (m k : Nat) : ∀ (x i : Nat) (ys : List Int), (tailLen m k x i ys).length = ys.length := by
  induction k with
  | zero => intro x i ys; rfl
  | succ k ih =>
    intro x i ys
    simp only [tailLen]
    split
    · rw [ih, List.length_set]
    · rfl
theorem tailLen_get (m k : Nat) : ∀ (x i : Nat) (ys : List Int) (j : Nat), 1 <= i -> m <= ys.length -> i + k <= m + 1 -> (∀ j, m < j + i + k -> j + i <= m -> ys.getD j 0 = 0) ->
    (tailLen m k x i ys).getD j 0 = if m < j + i + k /\ j + i <= m then ((x / 256 ^ (m - i - j) % 256 : Nat) : Int) else ys.getD j 0 := by
  induction k with
  | zero =>
    intro x i ys j _ _ _ _
    rw [if_neg (by omega)]
    rfl
  | succ k ih =>
    intro x i ys j hi hm hk hz
    simp only [tailLen]
    by_cases hx : 0 < x
    · rw [if_pos hx, ih (x / 256) (i + 1) (ys.set (m - i) ((x % 256 : Nat) : Int)) j (by omega) (by rw [List.length_set]; omega) (by omega) (fun j h1 h2 => by rw [getD_set_ne _ _ _ _ (by omega)]; exact hz j (by omega) (by omega))]
      by_cases h1 : m < j + (i + 1) + k /\ j + (i + 1) <= m
      · rw [if_pos h1, if_pos (by omega)]
        congr 2
        rw [Nat.div_div_eq_div_mul]
        congr 1
        rw [show m - i - j = (m - (i + 1) - j) + 1 from by omega, Nat.pow_succ, Nat.mul_comm]
      · rw [if_neg h1]
        by_cases h2 : j + i = m
        · rw [if_pos (by omega), show m - i = j from by omega, getD_set_self _ _ _ (by omega), show j - j = 0 from by omega, Nat.pow_zero, Nat.div_one]
        · rw [if_neg (by omega), getD_set_ne _ _ _ _ (by omega)]
    · rw [if_neg hx]
      obtain rfl : x = 0 := by omega
      by_cases h1 : m < j + i + (k + 1) /\ j + i <= m
      · rw [if_pos h1, hz j h1.1 h1.2, Nat.zero_div]
        rfl
      · rw [if_neg h1]
theorem rlen_get (n k j : Nat) (h : j < k) : (rlen n k).getD j 0 = (8 * (n : Int)) / 2 ^ (56 - 8 * (j : Int)).toNat % 256 := by
  induction k with
  | zero => omega
  | succ k ih =>
    simp only [rlen]
    rw [List.getD_eq_getElem?_getD]
    by_cases hj : j < k
    · rw [List.getElem?_append_left (by rw [rlen_length]; exact hj), <- List.getD_eq_getElem?_getD]
      exact ih hj
    · obtain rfl : j = k := by omega
      rw [List.getElem?_append_right (by rw [rlen_length]; omega), rlen_length, Nat.sub_self]
      rfl
theorem tailBlocks_r (n : Nat) : n / 64 + tailBlocks n = rblocks n := by
  unfold tailBlocks rblocks
  split <;> omega
theorem getD_append_left (xs ys : List Int) (j : Nat) (h : j < xs.length) : (xs ++ ys).getD j 0 = xs.getD j 0 := by
  rw [List.getD_eq_getElem?_getD, List.getElem?_append_left h, <- List.getD_eq_getElem?_getD]
theorem getD_append_right (xs ys : List Int) (j : Nat) (h : xs.length <= j) : (xs ++ ys).getD j 0 = ys.getD (j - xs.length) 0 := by
  rw [List.getD_eq_getElem?_getD, List.getElem?_append_right h, <- List.getD_eq_getElem?_getD]
theorem getD_replicate0 (n j : Nat) : (List.replicate n (0 : Int)).getD j 0 = 0 := by
  rw [List.getD_eq_getElem?_getD, List.getElem?_replicate]
  split <;> rfl
theorem rpad_get (bs : List Int) (k j : Nat) : (rpad bs k).getD j 0 = if j < bs.length then bs.getD j 0 else if j = bs.length then 128 else 0 := by
  unfold rpad
  by_cases h : j < bs.length
  · rw [if_pos h, getD_append_left _ _ _ (by simp; omega), getD_append_left _ _ _ h]
  · rw [if_neg h]
    by_cases h2 : j = bs.length
    · rw [if_pos h2, getD_append_left _ _ _ (by simp; omega), getD_append_right _ _ _ (by omega), h2, Nat.sub_self]
      rfl
    · rw [if_neg h2, getD_append_right _ _ _ (by simp; omega), getD_replicate0]
theorem tail0_get (rest : List Int) (hr : rest.length < 128) (j : Nat) : (tail0 rest).getD j 0 = if j < rest.length then rest.getD j 0 else if j = rest.length then 128 else 0 := by
  unfold tail0
  by_cases h2 : j = rest.length
  · rw [if_neg (by omega), if_pos h2, h2, getD_set_self _ _ _ (by simp; omega)]
  · rw [getD_set_ne _ _ _ _ (by omega)]
    by_cases h : j < rest.length
    · rw [if_pos h, getD_append_left _ _ _ h]
    · rw [if_neg h, if_neg h2, getD_append_right _ _ _ (by omega), getD_replicate0]
theorem tail0_length (rest : List Int) (hr : rest.length < 128) : (tail0 rest).length = 128 := by
  unfold tail0
  simp
  omega
theorem tailOf_rtext (bs : List Int) : (tailOf bs).take (tailSize bs.length) = (rtext bs).drop (64 * (bs.length / 64)) := by
  obtain ⟨n, hn⟩ : ∃ n, n = bs.length := ⟨_, rfl⟩
  have hrl : (bs.drop (64 * (bs.length / 64))).length = n % 64 := by rw [List.length_drop]; omega
  have ht : n / 64 + tailBlocks n = rblocks n := tailBlocks_r n
  have hz := rzeros_eq n
  have hts : tailSize n = 64 * tailBlocks n := rfl
  have htb : tailBlocks n = 1 \/ tailBlocks n = 2 := by unfold tailBlocks; split <;> omega
  have htl : (tailOf bs).length = 128 := by unfold tailOf; rw [tailLen_length, tail0_length _ (by omega)]
  apply ext_getD
  · rw [List.length_take, htl, List.length_drop, rtext_length, <- hn]
    omega
  · intro j hj
    rw [List.length_take, htl, <- hn] at hj
    rw [getD_drop]
    have h1 : ((tailOf bs).take (tailSize bs.length)).getD j 0 = (tailOf bs).getD j 0 := by
      rw [List.getD_eq_getElem?_getD, List.getElem?_take, if_pos (by rw [<- hn]; omega), <- List.getD_eq_getElem?_getD]
    rw [h1]
    unfold tailOf
    rw [tailLen_get _ 8 _ 1 _ j (by omega) (by rw [tail0_length _ (by omega), <- hn]; omega) (by rw [<- hn]; omega) (fun j h1 h2 => by
      rw [tail0_get _ (by omega), hrl, if_neg (by rw [<- hn] at *; omega), if_neg (by rw [<- hn] at *; omega)])]
    unfold rtext
    rw [<- hn] at hrl
    rw [<- hn]
    by_cases hw : tailSize n < j + 1 + 8 /\ j + 1 <= tailSize n
    · rw [if_pos hw, getD_append_right _ _ _ (by rw [rpad_length, <- hn]; omega), rpad_length, <- hn]
      obtain ⟨k, hk⟩ : ∃ k, k = 64 * (n / 64) + j - (n + 1 + rzeros n) := ⟨_, rfl⟩
      rw [<- hk, rlen_get _ _ _ (by omega), show tailSize n - 1 - j = 7 - k from by omega]
      have hk8 : k < 8 := by omega
      rcases (show k = 0 \/ k = 1 \/ k = 2 \/ k = 3 \/ k = 4 \/ k = 5 \/ k = 6 \/ k = 7 by omega) with h | h | h | h | h | h | h | h <;> rw [h] <;> simp <;> omega
    · rw [if_neg hw, tail0_get _ (by omega), hrl, getD_append_left _ _ _ (by rw [rpad_length, <- hn]; omega), rpad_get, <- hn]
      by_cases h2 : j < n % 64
      · rw [if_pos h2, if_pos (by omega), getD_drop]
      · rw [if_neg h2, if_neg (show ¬ 64 * (n / 64) + j < n by omega)]
        by_cases h3 : j = n % 64
        · rw [if_pos h3, if_pos (by omega)]
        · rw [if_neg h3, if_neg (by omega)]
theorem rtext_ok (bs : List Int) (hb : BytesOk bs) : BytesOk (rtext bs) := by
  intro x hx
  unfold rtext rpad at hx
  simp only [List.mem_append, List.mem_singleton, List.mem_replicate] at hx
  rcases hx with ((hx | rfl) | ⟨_, rfl⟩) | hx
  · exact hb x hx
  · omega
  · omega
  · have h (k : Nat) : ∀ x ∈ rlen bs.length k, 0 <= x /\ x <= 255 := by
      induction k with
      | zero => intro x hx; cases hx
      | succ k ih =>
        intro x hx
        simp only [rlen, List.mem_append, List.mem_singleton] at hx
        rcases hx with hx | rfl
        · exact ih x hx
        · omega
    exact h 8 x hx
theorem out_eq (s : Sums) : outB s.list 32 = rout s.list 8 := by
  simp [outB, rout, wordByte, Sums.list]
theorem sum_eq (bs : List Int) (hb : BytesOk bs) : shaSum bs = refSum bs := by
  unfold shaSum refSum
  rw [out_eq]
  congr 2
  have ht := tailBlocks_r bs.length
  have hz := rzeros_eq bs.length
  have hl := rtext_length bs
  have h1 : Sums.blocks Sums.first bs (bs.length / 64) = rsums (rtext bs) (0 + bs.length / 64) := by
    refine blocks_rsums (rtext bs) bs 0 (bs.length / 64) Sums.first rfl (by rw [hl]; omega) (rtext_ok bs hb) ?_
    intro i j hi hj
    rw [getD_drop, Nat.zero_add]
    unfold rtext
    rw [getD_append_left _ _ _ (by rw [rpad_length]; omega), rpad_get, if_pos (by omega)]
  rw [h1, Nat.zero_add, tailOf_rtext, <- ht]
  refine blocks_rsums (rtext bs) _ _ _ _ rfl (by rw [hl]; omega) (rtext_ok bs hb) ?_
  intro i j hi hj
  rw [getD_drop, getD_drop]
  congr 1
  omega
def bitBytes (n : Nat) : Nat := (n - 1) / 8 + 1
def cutByte (x : Int) (over : Int) : Int := Go.bits .and .u8 x (255 * 2 ^ (8 - over).toNat % 256)
def firstBits (l : List Int) (n : Nat) : List Int :=
  if n % 8 = 0 then l.take (bitBytes n) else (l.take (bitBytes n)).set (bitBytes n - 1) (cutByte ((l.take (bitBytes n)).getD (bitBytes n - 1) 0) ((n % 8 : Nat) : Int))
def firstB (l : List Int) (a : Int) : List Int := if 8 * (l.length : Int) <= a then l else if a < 1 then [] else firstBits l a.toNat
def bits_First.f (l0 : List Int) (a1 : Int) : Option (List Int) := if l0.length < 140737488355328 then some (firstB l0 a1) else none
theorem and7 (a : Int) : Go.bits .and .i64 a 7 = a % 8 := by
  unfold Go.bits
  have h7 : BitVec.ofInt IntKind.i64.bits 7 = BitVec.ofNat 64 7 := rfl
  have ha : (BitVec.ofInt IntKind.i64.bits a &&& BitVec.ofInt IntKind.i64.bits 7).toNat = (a % 8).toNat := by
    rw [h7]
    have h1 : (BitVec.ofInt 64 a).toNat = (a % 18446744073709551616).toNat := by rw [BitVec.toNat_ofInt]; rfl
    show ((BitVec.ofInt 64 a) &&& BitVec.ofNat 64 7).toNat = _
    rw [BitVec.toNat_and, h1, BitVec.toNat_ofNat]
    have h2 := Nat.and_two_pow_sub_one_eq_mod (a % 18446744073709551616).toNat 3
    have h3 : (7 % 2 ^ 64 : Nat) = 2 ^ 3 - 1 := by decide
    rw [h3, h2]
    omega
  simp only [ha]
  rw [IntKind.wrap_i64]
  omega
set_option maxHeartbeats 4000000 in
set_option maxRecDepth 100000 in
theorem bits_First.calls (A0 : Option Addr) (c0 : Nat) (l0 : List Int) (a1 : Int) (r : List Int) (w : World) (hr0 : Kd.C (Kd.int .u8) w A0 l0.length l0) (hc0 : l0.length <= c0) (h : bits_First.f l0 a1 = some r) :
    Calls Tryd.prog 77 #[.slice A0 l0.length c0, .int .i64 a1] w fun e w' => ∃ v0_ : Value, e = .returned (v0_) /\ Kd.R (Kd.int .u8) 5 w' w.heap.size (fun _ => True) v0_ r /\ Below w.heap.size w w' := by
  unfold bits_First.f at h
  split at h
  case isFalse => cases h
  case isTrue hlb =>
  obtain rfl := Option.some.inj h
  have HR := z_ hr0
  have HC := z_ hc0
  have hl2 : (l0.length : Int) < 140737488355328 := by omega
  have HL := z_ hlb
  unfold firstB
  by_cases hge : 8 * (l0.length : Int) <= a1
  · rw [if_pos hge]
    have hd : decide (8 * (l0.length : Int) <= a1) = true := decide_eq_true hge
    have HH := z_ (show slices_Clone_byte_byte.f l0 = some l0 from if_pos hlb)
    clear h hr0 hc0 hge hlb
    go_enter Tryd.func77, Tryd.ntmps77
    go_wp2_with fail
    refine (slices_Clone_byte_byte.calls A0 c0 l0 l0 _ HR.out HC.out HH.out).mono ?_
    rintro e1 w1 ⟨v, rfl, hR, hB⟩
    have HR1 := z_ hR
    have HB1 := z_ hB
    clear hR hB
    go_wp2_with fail
    go_ret
    exact ⟨_, rfl, HR1.out, HB1.out⟩
  · rw [if_neg hge]
    have hd : decide (8 * (l0.length : Int) <= a1) = false := decide_eq_false hge
    by_cases h1 : a1 < 1
    · rw [if_pos h1]
      have hd1 : decide (a1 < 1) = true := decide_eq_true h1
      clear h hr0 hc0 hge h1 hlb
      go_enter Tryd.func77, Tryd.ntmps77
      go_wp2_with fail
      go_ret
      exact ⟨_, rfl, Kd.R_nil _ _ _ _ _, Below.refl _ _⟩
    · rw [if_neg h1]
      have hd1 : decide (a1 < 1) = false := decide_eq_false h1
      obtain ⟨m, hm⟩ : ∃ m, m = bitBytes a1.toNat := ⟨_, rfl⟩
      have hm1 : (a1 - 1) / 8 + 1 = (m : Int) := by rw [hm]; unfold bitBytes; omega
      have hml : m <= l0.length := by omega
      have hm0 : 0 < m := by omega
      have ha1 : 1 <= a1 := by omega
      have HA1 := z_ ha1
      have ha2 : a1 <= 1125899906842624 := by omega
      have hmi : (m : Int) <= 140737488355328 := by omega
      have hmk := print_make (P := Tryd.prog) 31 5 .u8 1 Tryd.underlying31 info5 (by decide) m (by omega)
      obtain ⟨W1, hW1⟩ : ∃ W1, W1 = w.alloc (.cells (madeCells #[.int .u8 0] m) 5) := ⟨_, rfl⟩
      have hz : (madeCells #[Value.int .u8 0] m) = (List.replicate m (Value.int .u8 0)).toArray := by
        apply Array.ext'
        have := own_made w w.heap.size 5 .u8 m (Nat.le_refl _) (by omega)
        apply List.ext_getElem
        · simp [size_madeCells]
        · intro i h1 h2
          simp [madeCells, Nat.mod_one]
      have HTAIL : W1.heap[w.heap.size]? = some (.cells (List.replicate m (Value.int .u8 0)).toArray 5 (0, 0)) := by rw [hW1, hz]; exact heap_alloc_new w _
      have hBW : Below w.heap.size w W1 := by rw [hW1]; exact below_alloc (Below.refl _ _) _
      have hcs := copy_src (Kd.C_take (Kd.C_below hr0 hBW) hml) w.heap.size
      have htl : ((l0.take m).map (Value.int .u8)).length = m := by rw [List.length_map, List.length_take]; omega
      have HW1 := z_ hW1
      have HM := z_ hm
      have HML := z_ hml
      have HTL := z_ htl
      have HBW := z_ hBW
      have HT := z_ HTAIL
      have HCS := z_ hcs
      have H1C := z_ (show ∀ v ∈ (l0.take m).map (Value.int .u8), v.oneCell' = true from fun v hv => by obtain ⟨x, _, rfl⟩ := List.mem_map.1 hv; rfl)
      clear h hr0 hc0 hge h1 hlb hm hml htl hBW HTAIL hcs hz hW1
      obtain ⟨ov, hov⟩ : ∃ ov, ov = a1 % 8 := ⟨_, rfl⟩
      have hand := and7 a1
      rw [<- hov] at hand
      have ov0 : 0 <= ov := by omega
      have ov8 : ov < 8 := by omega
      have HOV := z_ hov
      clear hov
      by_cases hz : 0 < ov
      · have hdv : decide (0 < ov) = true := decide_eq_true hz
        have HZ := z_ hz
        clear hz
        go_enter Tryd.func77, Tryd.ntmps77
        go_wp2_with (first | ((with_reducible refine gate_builtin (b := .copy) (xs := #[.tmp 21, .tmp 22]) rfl ?_); rw [<- HW1.out]; go_must (refine wpList_copy_splice rfl (.tmp 21) (.tmp 22) 31 31 rfl 5 Tryd.underlying31 (by kernel_rfl) (some ⟨w.heap.size, 0, none⟩) A0 m m l0.length c0 rfl rfl w.heap.size 0 (List.replicate m (.int .u8 0)) 5 HT.out ((l0.take m).map (Value.int .u8)) (HTL.out.trans (Nat.min_eq_right HML.out).symm) HCS.out (by rw [HTL.out]; simp) H1C.out w.heap.size _ HBW.out (Nat.le_refl _) ?_; intro w2 HG2 hB2; rw [HTL.out]; have HTB := z_ (IsBytes.of_splice HG2.out); have HB2 := z_ hB2; clear HG2 hB2 hm1 hmk ha1 ha2 hl2 hd hd1)))
        obtain ⟨xs, hxs⟩ : ∃ xs, xs = l0.take m := ⟨_, rfl⟩
        have hxl : xs.length = m := by have := HML.out; rw [hxs, List.length_take]; omega
        have hTB : IsBytes w2 w.heap.size 5 xs := by have := HTB.out; rw [<- hxs, hxl, Nat.sub_self, List.replicate_zero, List.append_nil] at this; exact this
        have HTX := z_ hTB
        have HXS := z_ hxs
        obtain ⟨g, hg⟩ : ∃ g, g = w.heap.size := ⟨_, rfl⟩
        rw [<- hg] at HTX
        rw [<- hg]
        have HG := z_ hg
        clear hTB hxs hg HTB
        refine still_tail_at 11 (by kernel_rfl) (by kernel_rfl) (fun W hW => ?_)
        replace HTX : Aside0 (IsBytes W g 5 xs) := ⟨by rw [hW]; exact HTX.out⟩
        replace HB2 : Aside0 (Below w.heap.size w W) := ⟨by rw [hW]; exact below_drew1 HB2.out⟩
        clear hW
        obtain ⟨j, hj⟩ : ∃ j, j = m - 1 := ⟨_, rfl⟩
        have hjm : (m : Int) - 1 = (j : Int) := by omega
        have wj : IntKind.i64.wrap (j : Int) = (j : Int) := IntWalk.i64_in _ ⟨by omega, by omega⟩
        have qj : (j : Int) < (m : Int) := by omega
        have qj2 : j < m := by omega
        have pj : 0 <= (j : Int) := by omega
        have hc := HTX.out.cell j (by omega)
        have hf := HTX.out.frozen j
        obtain ⟨x, hx⟩ : ∃ x, x = xs.getD j 0 := ⟨_, rfl⟩
        rw [<- hx] at hc
        obtain ⟨s, hs⟩ : ∃ s, s = 8 - ov := ⟨_, rfl⟩
        have hs2 : 8 - ov = s := hs.symm
        have ws : IntKind.i64.wrap s = s := IntWalk.i64_in _ ⟨by omega, by omega⟩
        have s0 : 0 <= s := by omega
        have s8 : s <= 8 := by omega
        have HS := z_ hs
        have HX := z_ hx
        have HJ := z_ hj
        have HXL := z_ hxl
        clear hj hx hs hxl ov0 ov8 hmi hm0
        simp only [List.take_succ_cons, List.take_zero, List.drop_succ_cons, List.drop_zero]
        repeat still_step
        refine wpStill_nil ?_
        go_wp2_with fail
        go_ret
        have hfin : firstBits l0 a1.toNat = xs.set j (Go.bits .and .u8 x (255 * 2 ^ s.toNat % 256)) := by
          have hm := HML.out
          have hz := HZ.out
          have ho := HOV.out
          have h1 := HA1.out
          have hov : ((a1.toNat % 8 : Nat) : Int) = ov := by omega
          unfold firstBits
          rw [if_neg (by omega), <- HM.out, <- HXS.out, <- HJ.out, <- HX.out, hov]
          unfold cutByte
          rw [<- HS.out]
        rw [hfin]
        have hge : w.heap.size <= g := by rw [HG.out]; exact Nat.le_refl _
        exact ⟨_, rfl, (HTX.out.set j _).R hge (by rw [List.length_set]; exact HXL.out) (by have := HML.out; have := HL.out; unfold maxLen; omega), HB2.out.setCell (by show w.heap.size <= g; exact hge) _⟩
      · have hdv : decide (0 < ov) = false := decide_eq_false hz
        have hov0 : ov = 0 := by omega
        have HZ := z_ hov0
        clear hz hov0
        go_enter Tryd.func77, Tryd.ntmps77
        go_wp2_with (first | ((with_reducible refine gate_builtin (b := .copy) (xs := #[.tmp 21, .tmp 22]) rfl ?_); rw [<- HW1.out]; go_must (refine wpList_copy_splice rfl (.tmp 21) (.tmp 22) 31 31 rfl 5 Tryd.underlying31 (by kernel_rfl) (some ⟨w.heap.size, 0, none⟩) A0 m m l0.length c0 rfl rfl w.heap.size 0 (List.replicate m (.int .u8 0)) 5 HT.out ((l0.take m).map (Value.int .u8)) (HTL.out.trans (Nat.min_eq_right HML.out).symm) HCS.out (by rw [HTL.out]; simp) H1C.out w.heap.size _ HBW.out (Nat.le_refl _) ?_; intro w2 HG2 hB2; rw [HTL.out]; have HTB := z_ (IsBytes.of_splice HG2.out); have HB2 := z_ hB2; clear HG2 hB2 hm1 hmk ha1 ha2 hl2 hd hd1)))
        go_ret
        have hxl : (l0.take m).length = m := by have := HML.out; rw [List.length_take]; omega
        have hTB : IsBytes w2 w.heap.size 5 (l0.take m) := by have := HTB.out; rw [hxl, Nat.sub_self, List.replicate_zero, List.append_nil] at this; exact this
        have hfin : firstBits l0 a1.toNat = l0.take m := by
          unfold firstBits
          rw [if_pos (by have := HZ.out; have := HOV.out; have := HA1.out; omega), <- HM.out]
        rw [hfin]
        exact ⟨_, rfl, hTB.R (Nat.le_refl _) hxl (by have := HML.out; have := HL.out; unfold maxLen; omega), HB2.out⟩
end Go.Proofs.YtdeneoknjeegbaaDoor.P
end
