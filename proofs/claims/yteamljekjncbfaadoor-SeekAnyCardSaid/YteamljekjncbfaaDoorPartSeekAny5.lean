/- Lemmas of this claim, part 5. -/
import Derived.Test.YteamljekjncbfaaDoorPartSeekAny2
import Derived.Test.YteamljekjncbfaaDoorPartSeekAny4
import Derived.Laws.CopyOwn
section
namespace Go.Proofs.YteamljekjncbfaaDoor.P
open Go.RowKit Go.Proofs.YteamljekjncbfaaDoorW.PrintWords Go.Proofs.YteamljekjncbfaaDoorW.PrintLast Go.Proofs.YteamljekjncbfaaDoorW.PrintMore
attribute [local go_sem] max2_int min2_int max_two min_two max_three min_three max_four min_four
set_option linter.unusedVariables false
set_option linter.unusedSimpArgs false
def annalsref01_right.f (a0 : Int) (a1 : Int) : Option (Int) := if 0 ≤ a1 then (if 0 ≤ (wrap64 (32 - a1)) then (some (Go.bits .or .u32 (shr .u32 a0 a1) (shl .u32 a0 (wrap64 (32 - a1))))) else (none)) else (none)
set_option maxHeartbeats 8000000 in
set_option maxRecDepth 100000 in
theorem annalsref01_right.calls (a0 : Int) (a1 : Int) (r : Int) (w : World) (h : annalsref01_right.f a0 a1 = some r) :
    Calls Tryd.prog 120 #[.int .u32 a0, .int .i64 a1] w fun e w' => e = .returned (.int .u32 r) ∧ Drawn0 w w' := by
  have H : (if 0 ≤ a1 then (if 0 ≤ (wrap64 (32 - a1)) then (some (Go.bits .or .u32 (shr .u32 a0 a1) (shl .u32 a0 (wrap64 (32 - a1))))) else (none)) else (none)) = some r := h
  clear h
  by_cases c3 : 0 ≤ a1
  · rw [if_pos c3] at H
    have c3b0 := eq_true c3
    have c3b1 : decide (0 ≤ a1) = true := decide_eq_true c3
    clear c3
    obtain ⟨ji4, hji4⟩ : ∃ j_ : Int, (shr .u32 a0 a1) = j_ := ⟨_, rfl⟩
    replace H : (if 0 ≤ (wrap64 (32 - a1)) then (some (Go.bits .or .u32 (ji4) (shl .u32 a0 (wrap64 (32 - a1))))) else (none)) = some r := by first | (rw [hji4] at H; exact H) | (simp only [hji4] at H ⊢; exact H)
    have hji4_ : (a0 / 2 ^ min a1.toNat 32) = ji4 := hji4
    have hji4z : a1 ≤ 32 → (a0 / 2 ^ a1.toNat) = ji4 := shr_small hji4
    obtain ⟨ji5, hji5⟩ : ∃ j_ : Int, (wrap64 (32 - a1)) = j_ := ⟨_, rfl⟩
    replace H : (if 0 ≤ (ji5) then (some (Go.bits .or .u32 (ji4) (shl .u32 a0 (ji5)))) else (none)) = some r := by first | (rw [hji5] at H; exact H) | (simp only [hji5] at H ⊢; exact H)
    have hji5w : (IntKind.i64.wrap (32 - a1)) = ji5 := (i64_w _).trans hji5
    by_cases c6 : 0 ≤ (ji5)
    · rw [if_pos c6] at H
      have c6b0 := eq_true c6
      have c6b1 : decide (0 ≤ (ji5)) = true := decide_eq_true c6
      clear c6
      obtain ⟨ji7, hji7⟩ : ∃ j_ : Int, (shl .u32 a0 (ji5)) = j_ := ⟨_, rfl⟩
      replace H : (some (Go.bits .or .u32 (ji4) (ji7))) = some r := by first | (rw [hji7] at H; exact H) | (simp only [hji7] at H ⊢; exact H)
      have hji7_ : (IntKind.u32.wrap (a0 * 2 ^ min (ji5).toNat 32)) = ji7 := hji7
      have hji7z : (ji5) ≤ 32 → (IntKind.u32.wrap (a0 * 2 ^ (ji5).toNat)) = ji7 := shl_small hji7
      obtain rfl := Option.some.inj H
      go_enter Tryd.func120, Tryd.ntmps120
      go_wp2
      repeat (go_quiet (fail); try go_wp2)
      go_ret
      exact ⟨by first | rfl | (simp; done) | (simp only [← hji4, ← hji5, ← hji7] <;> (first | rfl | simp)) | (simp [*]; done), by repeat (first | exact Drawn0.refl _ | apply Drawn0.step)⟩
    · rw [if_neg c6] at H
      exact absurd H (by simp)
  · rw [if_neg c3] at H
    exact absurd H (by simp)
end Go.Proofs.YteamljekjncbfaaDoor.P
end
section
set_option linter.unusedVariables false
set_option linter.unusedSimpArgs false
namespace Go.Proofs.YteamljekjncbfaaDoor.P
open Go.RowKit Go.Proofs.YteamljekjncbfaaDoorW.PrintWords Go.Proofs.YteamljekjncbfaaDoorW.PrintLast Go.Proofs.YteamljekjncbfaaDoorW.PrintMore
theorem right_some (x n : Int) (h0 : 0 ≤ n) (h1 : n ≤ 32) : annalsref01_right.f x n = some ((annalsref01_right.f x n).getD 0) := by
  unfold annalsref01_right.f
  rw [if_pos h0, if_pos (by unfold wrap64; omega)]
  rfl
def Sums.agg (s : Sums) : Value := .agg #[.int .u32 s.a, .int .u32 s.b, .int .u32 s.c, .int .u32 s.d, .int .u32 s.e, .int .u32 s.f, .int .u32 s.g, .int .u32 s.h]
def Sums.rround (s : Sums) (add : Int) : Sums :=
  let s0 := Go.bits .xor .u32 (Go.bits .xor .u32 ((annalsref01_right.f s.a 2).getD 0) ((annalsref01_right.f s.a 13).getD 0)) ((annalsref01_right.f s.a 22).getD 0)
  let s1 := Go.bits .xor .u32 (Go.bits .xor .u32 ((annalsref01_right.f s.e 6).getD 0) ((annalsref01_right.f s.e 11).getD 0)) ((annalsref01_right.f s.e 25).getD 0)
  let choice := Go.bits .xor .u32 (Go.bits .and .u32 s.e s.f) (Go.bits .and .u32 (Go.bits .xor .u32 IntKind.u32.max s.e) s.g)
  let most := Go.bits .xor .u32 (Go.bits .xor .u32 (Go.bits .and .u32 s.a s.b) (Go.bits .and .u32 s.a s.c)) (Go.bits .and .u32 s.b s.c)
  ⟨(s.h + s1 + choice + add + s0 + most) % 4294967296, s.a, s.b, s.c, (s.d + (s.h + s1 + choice + add)) % 4294967296, s.e, s.f, s.g⟩
set_option maxRecDepth 100000 in
theorem results_round (W : World) (g : Nat) (v : Sums) (h : IsWords W g 140 v.list) (tm : Array Value) (h4 : tm[4]?.getD undef = .pointer (some ⟨g, 0, none⟩)) : (results Tryd.f121 tm).run Tryd.prog W = .ok v.agg W := by
  obtain ⟨c0, c1, c2, c3, c4, c5, c6, c7⟩ := IsSums.cells h
  simp [results, Tryd.results121, go_sem, h4, c0, c1, c2, c3, c4, c5, c6, c7, Sums.agg]
set_option maxHeartbeats 4000000 in
set_option maxRecDepth 100000 in
theorem round_calls (s : Sums) (add : Int) (w : World) :
    Calls Tryd.prog 121 #[s.agg, .int .u32 add] w fun e w' => e = .returned (s.rround add).agg ∧ Below w.heap.size w w' := by
  obtain ⟨y1, h1⟩ : ∃ y, annalsref01_right.f s.a 2 = some y := ⟨_, right_some _ _ (by omega) (by omega)⟩
  obtain ⟨y2, h2⟩ : ∃ y, annalsref01_right.f s.a 13 = some y := ⟨_, right_some _ _ (by omega) (by omega)⟩
  obtain ⟨y3, h3⟩ : ∃ y, annalsref01_right.f s.a 22 = some y := ⟨_, right_some _ _ (by omega) (by omega)⟩
  obtain ⟨y4, h4⟩ : ∃ y, annalsref01_right.f s.e 6 = some y := ⟨_, right_some _ _ (by omega) (by omega)⟩
  obtain ⟨y5, h5⟩ : ∃ y, annalsref01_right.f s.e 11 = some y := ⟨_, right_some _ _ (by omega) (by omega)⟩
  obtain ⟨y6, h6⟩ : ∃ y, annalsref01_right.f s.e 25 = some y := ⟨_, right_some _ _ (by omega) (by omega)⟩
  have G1 := Aside0.mk h1
  have G2 := Aside0.mk h2
  have G3 := Aside0.mk h3
  have G4 := Aside0.mk h4
  have G5 := Aside0.mk h5
  have G6 := Aside0.mk h6
  clear h1 h2 h3 h4 h5 h6
  unfold Sums.agg
  go_enter Tryd.func121, Tryd.ntmps121
  go_wp2_with fail
  obtain ⟨W1, hW1⟩ : ∃ W1, W1 = (w.alloc (Obj.cells (#[.int .u32 s.a, .int .u32 s.b, .int .u32 s.c, .int .u32 s.d, .int .u32 s.e, .int .u32 s.f, .int .u32 s.g, .int .u32 s.h]) 140 (0, 0))).alloc (Obj.cells (#[.int .u32 0, .int .u32 0, .int .u32 0, .int .u32 0, .int .u32 0, .int .u32 0, .int .u32 0, .int .u32 0]) 140 (0, 0)) := ⟨_, rfl⟩
  have hz : (w.alloc (Obj.cells (#[.int .u32 s.a, .int .u32 s.b, .int .u32 s.c, .int .u32 s.d, .int .u32 s.e, .int .u32 s.f, .int .u32 s.g, .int .u32 s.h]) 140 (0, 0))).heap.size = w.heap.size + 1 := by simp
  have hI : IsWords W1 w.heap.size 140 s.list := by
    rw [hW1]
    exact (below_alloc (Below.refl _ _) _).block _ (by rw [hz]; omega) |>.trans (heap_alloc_new w _)
  have hJ : IsWords W1 (w.heap.size + 1) 140 [0, 0, 0, 0, 0, 0, 0, 0] := by
    rw [hW1, ← hz]
    exact heap_alloc_new _ _
  have hB : Below w.heap.size w W1 := by
    rw [hW1]
    exact (below_alloc (Below.refl _ _) _).trans ((below_alloc (Below.refl _ _) _).mono (by rw [hz]; omega))
  rw [← hW1]
  obtain ⟨g, hg⟩ : ∃ g, g = w.heap.size := ⟨_, rfl⟩
  rw [← hg] at hI hJ
  rw [← hg]
  have HJ := Aside0.mk hJ
  have HB := Aside0.mk hB
  have HG := Aside0.mk hg
  obtain ⟨c0, c1, c2, c3, c4, c5, c6, c7⟩ := IsSums.cells hI
  obtain ⟨d0, d1, d2, d3, d4, d5, d6, d7⟩ := IsSums.cells (s := ⟨0, 0, 0, 0, 0, 0, 0, 0⟩) hJ
  have f0 := hJ.frozen 0
  have f1 := hJ.frozen 1
  have f2 := hJ.frozen 2
  have f3 := hJ.frozen 3
  have f4 := hJ.frozen 4
  have f5 := hJ.frozen 5
  have f6 := hJ.frozen 6
  have f7 := hJ.frozen 7
  clear hI hJ hB hg hz hW1
  go_quiet ((go_at_call 120; (first | with_reducible exact quiet_drawn0 (annalsref01_right.calls s.a 2 y1 _ G1.out) | with_reducible exact quiet_drawn2 (annalsref01_right.calls s.a 2 y1 _ G1.out) | with_reducible exact quiet_drawn (annalsref01_right.calls s.a 2 y1 _ G1.out) | with_reducible exact quiet_drawn0 (annalsref01_right.calls s.a 13 y2 _ G2.out) | with_reducible exact quiet_drawn2 (annalsref01_right.calls s.a 13 y2 _ G2.out) | with_reducible exact quiet_drawn (annalsref01_right.calls s.a 13 y2 _ G2.out) | with_reducible exact quiet_drawn0 (annalsref01_right.calls s.a 22 y3 _ G3.out) | with_reducible exact quiet_drawn2 (annalsref01_right.calls s.a 22 y3 _ G3.out) | with_reducible exact quiet_drawn (annalsref01_right.calls s.a 22 y3 _ G3.out))))
  go_wp2_with fail
  go_quiet ((go_at_call 120; (first | with_reducible exact quiet_drawn0 (annalsref01_right.calls s.e 6 y4 _ G4.out) | with_reducible exact quiet_drawn2 (annalsref01_right.calls s.e 6 y4 _ G4.out) | with_reducible exact quiet_drawn (annalsref01_right.calls s.e 6 y4 _ G4.out) | with_reducible exact quiet_drawn0 (annalsref01_right.calls s.e 11 y5 _ G5.out) | with_reducible exact quiet_drawn2 (annalsref01_right.calls s.e 11 y5 _ G5.out) | with_reducible exact quiet_drawn (annalsref01_right.calls s.e 11 y5 _ G5.out) | with_reducible exact quiet_drawn0 (annalsref01_right.calls s.e 25 y6 _ G6.out) | with_reducible exact quiet_drawn2 (annalsref01_right.calls s.e 25 y6 _ G6.out) | with_reducible exact quiet_drawn (annalsref01_right.calls s.e 25 y6 _ G6.out))))
  go_wp2_with fail
  have hR : s.rround add = ⟨(s.h + Go.bits .xor .u32 (Go.bits .xor .u32 y4 y5) y6 + Go.bits .xor .u32 (Go.bits .and .u32 s.e s.f) (Go.bits .and .u32 (Go.bits .xor .u32 IntKind.u32.max s.e) s.g) + add + Go.bits .xor .u32 (Go.bits .xor .u32 y1 y2) y3 + Go.bits .xor .u32 (Go.bits .xor .u32 (Go.bits .and .u32 s.a s.b) (Go.bits .and .u32 s.a s.c)) (Go.bits .and .u32 s.b s.c)) % 4294967296, s.a, s.b, s.c, (s.d + (s.h + Go.bits .xor .u32 (Go.bits .xor .u32 y4 y5) y6 + Go.bits .xor .u32 (Go.bits .and .u32 s.e s.f) (Go.bits .and .u32 (Go.bits .xor .u32 IntKind.u32.max s.e) s.g) + add)) % 4294967296, s.e, s.f, s.g⟩ := by
    unfold Sums.rround
    rw [G1.out, G2.out, G3.out, G4.out, G5.out, G6.out]
    rfl
  have hW := fun n => put8_words (s := ⟨0, 0, 0, 0, 0, 0, 0, 0⟩) (HJ.out.drewN n) (s.rround add).a (s.rround add).b (s.rround add).c (s.rround add).d (s.rround add).e (s.rround add).f (s.rround add).g (s.rround add).h
  have hB2 := fun n => put8_below (w0 := w) (w := W1.drewN n) ⟨HB.out.os, HB.out.tape, HB.out.output, HB.out.size, HB.out.block⟩ (g := g + 1) (by have := HG.out; omega) (s.rround add).a (s.rround add).b (s.rround add).c (s.rround add).d (s.rround add).e (s.rround add).f (s.rround add).g (s.rround add).h
  obtain ⟨S, hS⟩ : ∃ S, S = s.rround add := ⟨_, rfl⟩
  rw [← hS] at hR hW hB2
  rw [← hS]
  obtain ⟨va, hva⟩ : ∃ va, va = S.a := ⟨_, rfl⟩
  obtain ⟨ve, hve⟩ : ∃ ve, ve = S.e := ⟨_, rfl⟩
  clear c0 c1 c2 c3 c4 c5 c6 c7 d0 d1 d2 d3 d4 d5 d6 d7 f0 f1 f2 f3 f4 f5 f6 f7
  have hSa : S.a = _ := congrArg Sums.a hR
  have hSe : S.e = _ := congrArg Sums.e hR
  have hSb : S.b = s.a := congrArg Sums.b hR
  have hSc : S.c = s.b := congrArg Sums.c hR
  have hSd : S.d = s.c := congrArg Sums.d hR
  have hSf : S.f = s.e := congrArg Sums.f hR
  have hSg : S.g = s.f := congrArg Sums.g hR
  have hSh : S.h = s.g := congrArg Sums.h hR
  simp only [hSb, hSc, hSd, hSf, hSg, hSh] at hW hB2
  rw [hSa, hSe] at hW hB2
  refine bodyPost_ret (v := S.agg) (results_round _ (g + 1) S ?_ _ rfl) rfl ⟨rfl, hB2 _⟩
  rw [hR]
  exact hW _
end Go.Proofs.YteamljekjncbfaaDoor.P
end
section
set_option linter.unusedVariables false
set_option linter.unusedSimpArgs false
namespace Go.Proofs.YteamljekjncbfaaDoor.P
open Go.RowKit Go.Proofs.YteamljekjncbfaaDoorW.PrintWords Go.Proofs.YteamljekjncbfaaDoorW.PrintLast Go.Proofs.YteamljekjncbfaaDoorW.PrintMore
theorem results_row (fn : Func) (g t : Nat) (n e : Nat) (slot : Nat) (cs : Array Value) (tm : Array Value) (W : World) (hf : fn.results = #[.cell slot t]) (hu : Tryd.prog.underlying t = some (.array n e)) (hi : (Tryd.prog.info? t).map (·.size) = some cs.size)
    (h : W.heap[g]? = some (.cells cs t (0, 0))) (h4 : tm.getD slot undef = .pointer (some ⟨g, 0, none⟩)) : (results fn tm).run Tryd.prog W = .ok (.agg cs) W := by
  unfold results
  rw [hf]
  have hl := run_loadVar_row (P := Tryd.prog) W g t t cs (0, 0) (.array n e) h hu rfl hi
  have h4' : tm[slot]?.getD undef = .pointer (some ⟨g, 0, none⟩) := by simpa using h4
  simp [h4', asAddr, hl]
set_option maxHeartbeats 4000000 in
set_option maxRecDepth 100000 in
theorem adds_calls (w : World) :
    Calls Tryd.prog 117 #[] w fun e w' => e = .returned (.agg (words shaAdded)) ∧ Below w.heap.size w w' := by
  go_enter Tryd.func117, Tryd.ntmps117
  have hbl : Tryd.prog.built 144 ((List.range 64).map fun i => (i, Value.int .u32 (shaAdded.getD i 0))) = some (words shaAdded) := by kernel_rfl
  go_wp2_with (first | (refine wpList_build rfl 144 _ rfl (by kernel_rfl) ?_) | (refine wpList_store_row rfl 144 (.tmp 0) (.tmp 1) rfl w.heap.size (words shaAdded) rfl (by kernel_rfl) 144 _ (heap_alloc_new w _) (by kernel_rfl) (by kernel_rfl) (by kernel_rfl) ?_))
  refine bodyPost_ret (v := .agg (words shaAdded)) (results_row _ w.heap.size 144 64 117 0 _ _ _ rfl Tryd.underlying144 (by kernel_rfl) (setRow_heap _ _ _ _ _ _ (heap_alloc_new w _)) rfl) rfl ⟨rfl, below_setRow (below_alloc (Below.refl _ _) _) (Nat.le_refl _) _⟩
end Go.Proofs.YteamljekjncbfaaDoor.P
end
section
namespace Go.Proofs.YteamljekjncbfaaDoor.P
open Go.RowKit Go.Proofs.YteamljekjncbfaaDoorW.PrintWords Go.Proofs.YteamljekjncbfaaDoorW.PrintLast Go.Proofs.YteamljekjncbfaaDoorW.PrintMore
attribute [local go_sem] max2_int min2_int max_two min_two max_three min_three max_four min_four
set_option linter.unusedVariables false
set_option linter.unusedSimpArgs false
def annalsref01_word.f (l0 : List Int) : Option (Int) := if 0 < (l0.length : Int) then (if 1 < (l0.length : Int) then (if 2 < (l0.length : Int) then (if 3 < (l0.length : Int) then (some ((((((((((rd l0 0) % 4294967296) * 16777216) % 4294967296) + ((((rd l0 1) % 4294967296) * 65536) % 4294967296)) % 4294967296) + ((((rd l0 2) % 4294967296) * 256) % 4294967296)) % 4294967296) + ((rd l0 3) % 4294967296)) % 4294967296)) else (none)) else (none)) else (none)) else (none)
set_option maxHeartbeats 8000000 in
set_option maxRecDepth 100000 in
theorem annalsref01_word.calls (A0 : Option Addr) (c0 : Nat) (l0 : List Int) (r : Int) (w : World) (hr0 : Kd.C (Kd.int .u8) w A0 l0.length l0) (hc0 : l0.length ≤ c0) (h : annalsref01_word.f l0 = some r) :
    Calls Tryd.prog 119 #[.slice A0 l0.length c0] w fun e w' => e = .returned (.int .u32 r) ∧ Drawn0 w w' := by
  have HR0 := Aside0.mk hr0
  have HC0 := Aside0.mk hc0
  clear hr0 hc0
  have H : (if 0 < (l0.length : Int) then (if 1 < (l0.length : Int) then (if 2 < (l0.length : Int) then (if 3 < (l0.length : Int) then (some ((((((((((rd l0 0) % 4294967296) * 16777216) % 4294967296) + ((((rd l0 1) % 4294967296) * 65536) % 4294967296)) % 4294967296) + ((((rd l0 2) % 4294967296) * 256) % 4294967296)) % 4294967296) + ((rd l0 3) % 4294967296)) % 4294967296)) else (none)) else (none)) else (none)) else (none)) = some r := h
  clear h
  by_cases c2 : 0 < (l0.length : Int)
  · rw [if_pos c2] at H
    have c2b0 : decide (0 < (l0.length : Int)) = true := decide_eq_true c2
    have c2b1 : decide (0 < l0.length) = true := decide_eq_true (by omega)
    clear c2
    by_cases c3 : 1 < (l0.length : Int)
    · rw [if_pos c3] at H
      have c3b0 : decide (1 < (l0.length : Int)) = true := decide_eq_true c3
      have c3b1 : decide (1 < l0.length) = true := decide_eq_true (by omega)
      clear c3
      by_cases c4 : 2 < (l0.length : Int)
      · rw [if_pos c4] at H
        have c4b0 : decide (2 < (l0.length : Int)) = true := decide_eq_true c4
        have c4b1 : decide (2 < l0.length) = true := decide_eq_true (by omega)
        clear c4
        by_cases c5 : 3 < (l0.length : Int)
        · rw [if_pos c5] at H
          have c5b0 : decide (3 < (l0.length : Int)) = true := decide_eq_true c5
          have c5b1 : decide (3 < l0.length) = true := decide_eq_true (by omega)
          clear c5
          obtain rfl := Option.some.inj H
          have p149 : 0 ≤ (0 : Int) := (by omega)
          have q149 : 0 < (l0.length : Int) := of_decide_eq_true (by first | (with_reducible assumption) | assumption)
          obtain ⟨ad149, e149, hx149_0⟩ := Kd.at_int HR0.out 0 p149 q149
          cases e149
          have qi149 : (0 < l0.length) = True := eq_true (by omega)
          (try rw [show ((0 : Int)).toNat = 0 from rfl] at hx149_0)
          (try rw [Addr.add_zero'] at hx149_0)
          replace p149 := eq_true p149
          replace q149 := eq_true q149
          have p150 : 0 ≤ (1 : Int) := (by omega)
          have q150 : 1 < (l0.length : Int) := of_decide_eq_true (by first | (with_reducible assumption) | assumption)
          obtain ⟨ad150, e150, hx150_0⟩ := Kd.at_int HR0.out 1 p150 q150
          obtain rfl : ad149 = ad150 := (by injection e150)
          (try simp only [show (1 : Int).toNat = 1 from rfl, Nat.reduceMul, Nat.reduceEqDiff, Go.Addr.add, ↓reduceIte] at hx150_0)
          have qi150 : (1 < l0.length) = True := eq_true (by omega)
          (try rw [show ((1 : Int)).toNat = 1 from rfl] at hx150_0)
          replace p150 := eq_true p150
          replace q150 := eq_true q150
          have p151 : 0 ≤ (2 : Int) := (by omega)
          have q151 : 2 < (l0.length : Int) := of_decide_eq_true (by first | (with_reducible assumption) | assumption)
          obtain ⟨ad151, e151, hx151_0⟩ := Kd.at_int HR0.out 2 p151 q151
          obtain rfl : ad149 = ad151 := (by injection e151)
          (try simp only [show (2 : Int).toNat = 2 from rfl, Nat.reduceMul, Nat.reduceEqDiff, Go.Addr.add, ↓reduceIte] at hx151_0)
          have qi151 : (2 < l0.length) = True := eq_true (by omega)
          (try rw [show ((2 : Int)).toNat = 2 from rfl] at hx151_0)
          replace p151 := eq_true p151
          replace q151 := eq_true q151
          have p152 : 0 ≤ (3 : Int) := (by omega)
          have q152 : 3 < (l0.length : Int) := of_decide_eq_true (by first | (with_reducible assumption) | assumption)
          obtain ⟨ad152, e152, hx152_0⟩ := Kd.at_int HR0.out 3 p152 q152
          obtain rfl : ad149 = ad152 := (by injection e152)
          (try simp only [show (3 : Int).toNat = 3 from rfl, Nat.reduceMul, Nat.reduceEqDiff, Go.Addr.add, ↓reduceIte] at hx152_0)
          have qi152 : (3 < l0.length) = True := eq_true (by omega)
          (try rw [show ((3 : Int)).toNat = 3 from rfl] at hx152_0)
          replace p152 := eq_true p152
          replace q152 := eq_true q152
          go_enter Tryd.func119, Tryd.ntmps119
          go_wp2
          repeat (go_quiet (fail); try go_wp2)
          go_ret
          exact ⟨by first | rfl | (simp; done) | (simp [*]; done), by repeat (first | exact Drawn0.refl _ | apply Drawn0.step)⟩
        · rw [if_neg c5] at H
          exact absurd H (by simp)
      · rw [if_neg c4] at H
        exact absurd H (by simp)
    · rw [if_neg c3] at H
      exact absurd H (by simp)
  · rw [if_neg c2] at H
    exact absurd H (by simp)
end Go.Proofs.YteamljekjncbfaaDoor.P
end
section
namespace Go.Proofs.YteamljekjncbfaaDoor.P
open Go.RowKit Go.Proofs.YteamljekjncbfaaDoorW.PrintWords Go.Proofs.YteamljekjncbfaaDoorW.PrintLast Go.Proofs.YteamljekjncbfaaDoorW.PrintMore
attribute [local go_sem] max2_int min2_int max_two min_two max_three min_three max_four min_four
set_option linter.unusedVariables false
set_option linter.unusedSimpArgs false
def annalsref01_Blocks.f (a0 : Int) : Option (Int) := if a0 < 0 then (some (((0 : Int) / 64) + (((((0 : Int) % 64) + 9) + 63) / 64))) else (some (wrap64 ((wrap64 (Int.tdiv a0 64)) + (wrap64 (Int.tdiv (wrap64 ((wrap64 ((Int.tmod a0 64) + 9)) + 63)) 64)))))
set_option maxHeartbeats 8000000 in
set_option maxRecDepth 100000 in
theorem annalsref01_Blocks.calls (a0 : Int) (r : Int) (w : World) (h : annalsref01_Blocks.f a0 = some r) :
    Calls Tryd.prog 118 #[.int .i64 a0] w fun e w' => e = .returned (.int .i64 r) ∧ Drawn0 w w' := by
  have H : (if a0 < 0 then (some (((0 : Int) / 64) + (((((0 : Int) % 64) + 9) + 63) / 64))) else (some (wrap64 ((wrap64 (Int.tdiv a0 64)) + (wrap64 (Int.tdiv (wrap64 ((wrap64 ((Int.tmod a0 64) + 9)) + 63)) 64)))))) = some r := h
  clear h
  by_cases c2 : a0 < 0
  · rw [if_pos c2] at H
    have c2b0 : decide (a0 < 0) = true := decide_eq_true c2
    clear c2
    obtain rfl := Option.some.inj H
    go_enter Tryd.func118, Tryd.ntmps118
    go_wp2
    go_ret
    exact ⟨by first | rfl | (simp; done) | (simp [*]; done), by repeat (first | exact Drawn0.refl _ | apply Drawn0.step)⟩
  · rw [if_neg c2] at H
    have c2b0 : decide (a0 < 0) = false := decide_eq_false c2
    clear c2
    obtain rfl := Option.some.inj H
    go_enter Tryd.func118, Tryd.ntmps118
    go_wp2
    go_ret
    exact ⟨by first | rfl | (simp; done) | (simp [*]; done), by repeat (first | exact Drawn0.refl _ | apply Drawn0.step)⟩
end Go.Proofs.YteamljekjncbfaaDoor.P
end
