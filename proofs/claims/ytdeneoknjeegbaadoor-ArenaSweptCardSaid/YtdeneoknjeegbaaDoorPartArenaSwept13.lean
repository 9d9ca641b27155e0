/- Lemmas of this claim, part 13. -/
import Derived.Test.YtdeneoknjeegbaaDoorPartArenaSwept12
section
set_option linter.unusedVariables false
set_option linter.unusedSimpArgs false
namespace Go.Proofs.YtdeneoknjeegbaaDoor.P
open Go.RowKit Go.Proofs.YtdeneoknjeegbaaDoor.Pure Go.Proofs.YtdeneoknjeegbaaDoorW.PrintWords Go.Proofs.YtdeneoknjeegbaaDoorW.PrintLast Go.Proofs.YtdeneoknjeegbaaDoorW.PrintMore
def forkBad (cs : Cs) (depth : Int) (prefix_ : List Int) (left right : Int) : Prop := depth < 0 ∨ 8 * (prefix_.length : Int) < depth ∨ 65535 < prefix_.length ∨ nodeAt cs left = none ∨ nodeAt cs right = none
def forkNd (size depth : Int) (prefix_ : List Int) (left right : Int) (nl nr : Nd) : Nd := ⟨false, [], [], 0, depth, firstB prefix_ depth, (if nl.f6 < nr.f6 then nr.f6 else nl.f6), left, right, hashB size 2 [num8 depth, firstB (firstB prefix_ depth) depth, num8 (if nl.f6 < nr.f6 then nr.f6 else nl.f6), nl.f9, nr.f9]⟩
def forkOf (size : Int) (cs : Cs) (depth : Int) (prefix_ : List Int) (left right : Int) : Nd := match nodeAt cs left, nodeAt cs right with
  | some nl, some nr => forkNd size depth prefix_ left right nl nr
  | _, _ => z39
theorem FreeU8 {w : World} {base n c : Nat} {ok : Nat → Prop} {A : Option Addr} {l : List Int} (h : Kd.R (Kd.int .u8) 5 w base ok (.slice A n c) l) : Kd.C (Kd.int .u8) w A l.length l := (Kd.R_reads' h).2.2
def fork_T6 : Bool × List (List Nat × List Nat) := (true, [([], []), ([], []), ([], []), ([1, 2], [1, 2]), ([], []), ([4], [4]), ([5], [5]), ([6], [6]), ([], []), ([8], [8]), ([9], [9]), ([10], [10]), ([7, 11], [7, 11]), ([], []), ([], []), ([0, 3, 12, 13, 14], [0, 3, 12, 13, 14]), ([], []), ([16, 15, 3, 0, 1, 2, 3, 4, 5, 6, 7, 8, 9, 10, 11, 12, 13, 14, 15, 16], [15, 16])])
def fork_B6 : List Nat := [0, 0, 0, 6, 0, 16, 48, 112, 0, 256, 768, 1792, 4080, 0, 0, 32767, 0, 131071]
theorem fork_tab6 : rtab .any (opsOf Tryd.f39 6) = fork_T6 := by kernel_rfl
theorem fork_bits6 : waitsOk fork_T6.2 fork_B6 = true := by kernel_rfl
attribute [local go_sem] max2_int min2_int max_two min_two
set_option maxHeartbeats 8000000 in
set_option maxRecDepth 100000 in
theorem fork_calls {w : World} {base p : Nat} {size room : Int} {vc vf : Value} {X : Nat → Prop} {cs : Cs} (h : ArenaM w base p size room vc vf X cs) (A : Option Addr) (cc : Nat) (c0 : List Int) (depth left right : Int)
    (b0 : BX w X (.slice A c0.length cc) c0) (hGS : GlobS w) :
    Calls Tryd.prog 39 #[.pointer (some ⟨p, 0, none⟩), .int .i64 depth, .slice A c0.length cc, .int .i64 left, .int .i64 right] w
      fun e w' => PutPost (forkBad cs depth c0 left right) w w' base p size room vc vf X cs (forkOf size cs depth c0 left right) e := by
  have HBk := Aside0.mk (blkA h)
  have HS := Aside0.mk (show size ≠ 0 by have := h.hs; omega)
  have HM := Aside0.mk h
  have HB0 := Aside0.mk b0
  have HGS := Aside0.mk hGS
  have HBW := Aside0.mk h.base_le
  clear h b0 hGS
  obtain ⟨m8, hm8⟩ : ∃ m, wrap64 (8 * (c0.length : Int)) = m := ⟨_, rfl⟩
  have HM8 := Aside0.mk (show m8 < depth → 8 * (c0.length : Int) < depth ∨ 65535 < c0.length from fun hlt => by
    by_cases hl : 65535 < c0.length
    · exact .inr hl
    · rw [wrap64_id _ (by omega)] at hm8
      exact .inl (by omega))
  have HM9 := Aside0.mk (show depth ≤ m8 → c0.length ≤ 65535 → depth ≤ 8 * (c0.length : Int) from fun hlt hl => by
    rw [wrap64_id _ (by omega)] at hm8
    omega)
  go_enter Tryd.func39, Tryd.ntmps39
  go_wp2_with fail
  refine (none_calls HBk.out HS.out).mono ?_
  rintro e w' ⟨rfl, rfl⟩
  go_wp2_with fail
  refine (atA_calls HM.out left).mono ?_
  rintro e w' ⟨⟨vl, rfl, hvl⟩, rfl⟩
  have HVL := Aside0.mk hvl
  clear hvl
  go_wp2_with fail
  refine (atA_calls HM.out right).mono ?_
  rintro e w' ⟨⟨vr, rfl, hvr⟩, rfl⟩
  have HVR := Aside0.mk hvr
  clear hvr
  by_cases h1 : depth < 0
  · have hd1 := decide_eq_true h1
    have HC := Aside0.mk (show forkBad cs depth c0 left right from .inl h1)
    clear h1 hm8
    go_wp2_with fail
    go_ret2
    exact ⟨fun _ => ⟨rfl, ArenaP.of_below HM.out (Below.refl _ _)⟩, fun h => absurd HC.out h, fun h => absurd HC.out h⟩
  have hd1 := decide_eq_false h1
  by_cases h2 : depth > m8
  · have hd2 := decide_eq_true h2
    have HC := Aside0.mk (show forkBad cs depth c0 left right from (HM8.out h2).elim (fun h => .inr (.inl h)) (fun h => .inr (.inr (.inl h))))
    clear h1 h2
    go_wp2_with fail
    go_ret2
    exact ⟨fun _ => ⟨rfl, ArenaP.of_below HM.out (Below.refl _ _)⟩, fun h => absurd HC.out h, fun h => absurd HC.out h⟩
  have hd2 := decide_eq_false h2
  by_cases h3 : (c0.length : Int) > 65535
  · have hd3 := decide_eq_true h3
    have hd4 : decide (65535 < c0.length) = true := decide_eq_true (by omega)
    have HC := Aside0.mk (show forkBad cs depth c0 left right from .inr (.inr (.inl (by omega))))
    clear h1 h2 h3
    go_wp2_with fail
    go_ret2
    exact ⟨fun _ => ⟨rfl, ArenaP.of_below HM.out (Below.refl _ _)⟩, fun h => absurd HC.out h, fun h => absurd HC.out h⟩
  have hd3 := decide_eq_false h3
  have hd4 : decide (65535 < c0.length) = false := decide_eq_false (by omega)
  have H65 := Aside0.mk (show c0.length ≤ 65535 by omega)
  have H8 := Aside0.mk (HM9.out (by omega) (by omega))
  have H0D := Aside0.mk h1
  clear h1 h2 h3
  cases hol : nodeAt cs left with
  | none =>
    have hv := HVL.out
    rw [hol] at hv
    obtain rfl : vl = .pointer none := hv
    have HC := Aside0.mk (show forkBad cs depth c0 left right from .inr (.inr (.inr (.inl hol))))
    clear hol HVL HVR
    go_wp2_with fail
    go_ret2
    exact ⟨fun _ => ⟨rfl, ArenaP.of_below HM.out (Below.refl _ _)⟩, fun h => absurd HC.out h, fun h => absurd HC.out h⟩
  | some nl =>
  cases hor : nodeAt cs right with
  | none =>
    have hv := HVR.out
    rw [hor] at hv
    obtain rfl : vr = .pointer none := hv
    have hv := HVL.out
    rw [hol] at hv
    obtain ⟨gl, dl, rl, rfl, _, _⟩ := hv
    have HC := Aside0.mk (show forkBad cs depth c0 left right from .inr (.inr (.inr (.inr hor))))
    clear hol hor HVL HVR
    go_wp2_with fail
    go_ret2
    exact ⟨fun _ => ⟨rfl, ArenaP.of_below HM.out (Below.refl _ _)⟩, fun h => absurd HC.out h, fun h => absurd HC.out h⟩
  | some nr =>
  have HC := Aside0.mk (show ¬ forkBad cs depth c0 left right from fun hb => by
    rcases hb with hb | hb | hb | hb | hb
    · have := H0D.out
      omega
    · have := H8.out
      omega
    · have := H65.out
      omega
    · rw [hol] at hb
      cases hb
    · rw [hor] at hb
      cases hb)
  have HOF := Aside0.mk (show forkOf size cs depth c0 left right = forkNd size depth c0 left right nl nr by unfold forkOf; rw [hol, hor])
  have hvl := HVL.out
  have hvr := HVR.out
  rw [hol] at hvl
  rw [hor] at hvr
  obtain ⟨gl, dl, rl, rfl, ⟨LA1, LA2, LA5, LA9, lc1, lc2, lc5, lc9, hrl, -, -, -, bl9⟩, hcl⟩ := hvl
  obtain ⟨gr, dr, rr, rfl, ⟨RA1, RA2, RA5, RA9, rc1, rc2, rc5, rc9, hrr, -, -, -, br9⟩, hcr⟩ := hvr
  have l6 := hcl 6 (.int .i64 nl.f6) (by rw [hrl]; rfl)
  have l9 := hcl 9 (.slice LA9 nl.f9.length lc9) (by rw [hrl]; rfl)
  have r6 := hcr 6 (.int .i64 nr.f6) (by rw [hrr]; rfl)
  have r9 := hcr 9 (.slice RA9 nr.f9.length rc9) (by rw [hrr]; rfl)
  have HSOK := Aside0.mk (show ∀ w' : World, Below w.heap.size w w' → w'.cell? ⟨gl, dl + 6, none⟩ = some (.int .i64 nl.f6) ∧ w'.cell? ⟨gr, dr + 6, none⟩ = some (.int .i64 nr.f6) from fun w' hb => ⟨(hb.cell (World.block_lt_of_cell? w _ l6)).trans l6, (hb.cell (World.block_lt_of_cell? w _ r6)).trans r6⟩)
  have HS9 := Aside0.mk (show ∀ w' : World, Below w.heap.size w w' → w'.cell? ⟨gl, dl + 9, none⟩ = some (.slice LA9 nl.f9.length lc9) ∧ w'.cell? ⟨gr, dr + 9, none⟩ = some (.slice RA9 nr.f9.length rc9) from fun w' hb => ⟨(hb.cell (World.block_lt_of_cell? w _ l9)).trans l9, (hb.cell (World.block_lt_of_cell? w _ r9)).trans r9⟩)
  have HL9 := Aside0.mk bl9
  have HR9 := Aside0.mk br9
  have HFIRST := Aside0.mk (show ∀ W : World, Below w.heap.size w W → Calls Tryd.prog 77 #[.slice A c0.length cc, .int .i64 depth] W fun e w' => ∃ v0_ : Value, e = .returned (v0_) ∧ Kd.R (Kd.int .u8) 5 w' W.heap.size (fun _ => True) v0_ (firstB c0 depth) ∧ Below W.heap.size W w' from fun W hb =>
    bits_First.calls A cc c0 depth (firstB c0 depth) W (Kd.V_reads' (Kd.V_below HB0.out hb)).2.2 (Kd.V_reads' HB0.out).2.1 (by unfold bits_First.f; exact if_pos (by have := H65.out; omega)))
  clear hcl hcr hrl hrr bl9 br9 l6 l9 r6 r9 hol hor HVL HVR HM8 HM9
  go_wp2_with fail
  refine start_ (n := 18) (S := fun w' => w'.cell? ⟨gl, dl + 6, none⟩ = some (.int .i64 nl.f6) ∧ w'.cell? ⟨gr, dr + 6, none⟩ = some (.int .i64 nr.f6)) (ds := []) #[false, false, false, false, false, false, false, false, false, false, false, false, false, false, false, false, false, false] (by kernel_rfl) rfl rfl (HSOK.out _ (below_drew (Below.refl _ _))) (fun hHeld => ?_); refine with_tabW fork_tab6 fork_bits6 (fun HT_ HW_ => ?_)
  have HB := Aside0.mk (show Below w.heap.size w w.drew from below_drew (Below.refl _ _))
  generalize hgw : w.drew = w22 at HB hHeld ⊢
  clear hgw
  refine pure_ (i := 0) (N := some 45) (v := ?_) (a' := ?_) #[true, false, false, false, false, false, false, false, false, false, false, false, false, false, false, false, false, false] rfl rfl (any_of HT_.out (by kernel_rfl)) (fun _ _ _ h => h) (Or.inl ⟨by rfl, ?_⟩) ?_ ?_
  rotate_left
  · intro w'
    go_simp
    with_reducible rfl
  rotate_left
  · simp only [Act.put, List.setIfInBounds_toArray, List.set_cons_zero, List.set_cons_succ, i64_w, i32_w]
    rfl
  refine pure_ (i := 1) (N := some 46) (v := ?_) (a' := ?_) #[true, true, false, false, false, false, false, false, false, false, false, false, false, false, false, false, false, false] rfl rfl (any_of HT_.out (by kernel_rfl)) (fun _ _ _ h => h) (Or.inl ⟨by rfl, ?_⟩) ?_ ?_
  rotate_left
  · intro w'
    go_simp
    with_reducible rfl
  rotate_left
  · simp only [Act.put, List.setIfInBounds_toArray, List.set_cons_zero, List.set_cons_succ, i64_w, i32_w]
    rfl
  refine pure_ (i := 2) (N := some 47) (v := ?_) (a' := ?_) #[true, true, true, false, false, false, false, false, false, false, false, false, false, false, false, false, false, false] rfl rfl (any_of HT_.out (by kernel_rfl)) (fun _ _ _ h => h) (Or.inl ⟨by rfl, ?_⟩) ?_ ?_
  rotate_left
  · intro w'
    go_simp
    with_reducible rfl
  rotate_left
  · simp only [Act.put, List.setIfInBounds_toArray, List.set_cons_zero, List.set_cons_succ, i64_w, i32_w]
    rfl
  refine pure_ (i := 4) (N := some 49) (v := ?_) (a' := ?_) #[true, true, true, false, true, false, false, false, false, false, false, false, false, false, false, false, false, false] rfl rfl (any_of HT_.out (by kernel_rfl)) (fun _ _ _ h => h) (Or.inl ⟨by rfl, ?_⟩) ?_ ?_
  rotate_left
  · intro w'
    go_simp
    with_reducible rfl
  rotate_left
  · simp only [Act.put, List.setIfInBounds_toArray, List.set_cons_zero, List.set_cons_succ, i64_w, i32_w]
    rfl
  refine pure_ (i := 5) (N := some 50) (v := ?_) (a' := ?_) #[true, true, true, false, true, true, false, false, false, false, false, false, false, false, false, false, false, false] rfl rfl (any_of HT_.out (by kernel_rfl)) (fun _ _ _ h => h) (Or.inl ⟨by rfl, ?_⟩) ?_ ?_
  rotate_left
  · intro w'
    go_simp
    with_reducible rfl
  rotate_left
  · simp only [Act.put, List.setIfInBounds_toArray, List.set_cons_zero, List.set_cons_succ, i64_w, i32_w]
    rfl
  refine pure_ (i := 6) (N := some 51) (v := ?_) (a' := ?_) #[true, true, true, false, true, true, true, false, false, false, false, false, false, false, false, false, false, false] rfl rfl (any_of HT_.out (by kernel_rfl)) (fun _ _ _ h => h) (Or.inl ⟨by rfl, ?_⟩) ?_ ?_
  rotate_left
  · intro w'
    go_simp
    with_reducible rfl
  rotate_left
  · simp only [Act.put, List.setIfInBounds_toArray, List.set_cons_zero, List.set_cons_succ, i64_w, i32_w]
    rfl
  refine pure_ (i := 8) (N := some 53) (v := ?_) (a' := ?_) #[true, true, true, false, true, true, true, false, true, false, false, false, false, false, false, false, false, false] rfl rfl (any_of HT_.out (by kernel_rfl)) (fun _ _ _ h => h) (Or.inl ⟨by rfl, ?_⟩) ?_ ?_
  rotate_left
  · intro w'
    go_simp
    with_reducible rfl
  rotate_left
  · simp only [Act.put, List.setIfInBounds_toArray, List.set_cons_zero, List.set_cons_succ, i64_w, i32_w]
    rfl
  refine pure_ (i := 9) (N := some 54) (v := ?_) (a' := ?_) #[true, true, true, false, true, true, true, false, true, true, false, false, false, false, false, false, false, false] rfl rfl (any_of HT_.out (by kernel_rfl)) (fun _ _ _ h => h) (Or.inl ⟨by rfl, ?_⟩) ?_ ?_
  rotate_left
  · intro w'
    go_simp
    with_reducible rfl
  rotate_left
  · simp only [Act.put, List.setIfInBounds_toArray, List.set_cons_zero, List.set_cons_succ, i64_w, i32_w]
    rfl
  refine pure_ (i := 10) (N := some 55) (v := ?_) (a' := ?_) #[true, true, true, false, true, true, true, false, true, true, true, false, false, false, false, false, false, false] rfl rfl (any_of HT_.out (by kernel_rfl)) (fun _ _ _ h => h) (Or.inl ⟨by rfl, ?_⟩) ?_ ?_
  rotate_left
  · intro w'
    go_simp
    with_reducible rfl
  rotate_left
  · simp only [Act.put, List.setIfInBounds_toArray, List.set_cons_zero, List.set_cons_succ, i64_w, i32_w]
    rfl
  refine pure_ (i := 13) (N := some 58) (v := ?_) (a' := ?_) #[true, true, true, false, true, true, true, false, true, true, true, false, false, true, false, false, false, false] rfl rfl (any_of HT_.out (by kernel_rfl)) (fun _ _ _ h => h) (Or.inl ⟨by rfl, ?_⟩) ?_ ?_
  rotate_left
  · intro w'
    go_simp
    with_reducible rfl
  rotate_left
  · simp only [Act.put, List.setIfInBounds_toArray, List.set_cons_zero, List.set_cons_succ, i64_w, i32_w]
    rfl
  refine pure_ (i := 14) (N := some 59) (v := ?_) (a' := ?_) #[true, true, true, false, true, true, true, false, true, true, true, false, false, true, true, false, false, false] rfl rfl (any_of HT_.out (by kernel_rfl)) (fun _ _ _ h => h) (Or.inl ⟨by rfl, ?_⟩) ?_ ?_
  rotate_left
  · intro w'
    go_simp
    with_reducible rfl
  rotate_left
  · simp only [Act.put, List.setIfInBounds_toArray, List.set_cons_zero, List.set_cons_succ, i64_w, i32_w]
    rfl
  refine take_ (i := 7) (N := some 52) (v := ?_) (a' := ?_) #[true, true, true, false, true, true, true, true, true, true, true, false, false, true, true, false, false, false] rfl rfl (take_ofW HT_.out HW_.out (by kernel_rfl)) (fun _ _ _ h => h) (Or.inl ⟨by rfl, ?_⟩) hHeld ?_ ?_
  rotate_left
  · rintro w' ⟨s0, s1⟩
    go_simp
    with_reducible rfl
  rotate_left
  · simp only [Act.put, List.setIfInBounds_toArray, List.set_cons_zero, List.set_cons_succ, i64_w, i32_w]
    rfl
  refine take_ (i := 11) (N := some 56) (v := ?_) (a' := ?_) #[true, true, true, false, true, true, true, true, true, true, true, true, false, true, true, false, false, false] rfl rfl (take_ofW HT_.out HW_.out (by kernel_rfl)) (fun _ _ _ h => h) (Or.inl ⟨by rfl, ?_⟩) hHeld ?_ ?_
  rotate_left
  · rintro w' ⟨s0, s1⟩
    go_simp
    with_reducible rfl
  rotate_left
  · simp only [Act.put, List.setIfInBounds_toArray, List.set_cons_zero, List.set_cons_succ, i64_w, i32_w]
    rfl
  refine pure_ (i := 12) (N := some 57) (v := ?_) (a' := ?_) #[true, true, true, false, true, true, true, true, true, true, true, true, true, true, true, false, false, false] rfl rfl (any_of HT_.out (by kernel_rfl)) (fun _ _ _ h => h) (Or.inl ⟨by rfl, ?_⟩) ?_ ?_
  rotate_left
  · intro w'
    go_simp
    with_reducible rfl
  rotate_left
  · simp only [Act.put, List.setIfInBounds_toArray, List.set_cons_zero, List.set_cons_succ, i64_w, i32_w]
    rfl
  refine join_ (σ := Option Addr × Nat × Nat) 1 #[true, true, true, true, true, true, true, true, true, true, true, true, true, true, true, true, true, false] (fun s_ => [(48, .slice s_.1 (firstB c0 depth).length s_.2.1), (14, .pointer (some ⟨s_.2.2, 0, none⟩)), (60, .agg #[.bool false, .slice none 0 0, .slice none 0 0, .int .i64 0, .int .i64 depth, .slice s_.1 (firstB c0 depth).length s_.2.1, .int .i64 (if nl.f6 < nr.f6 then nr.f6 else nl.f6), .int .i64 left, .int .i64 right, .slice none 0 0])]) (fun s_ w' => (w'.cell? ⟨gl, dl + 6, none⟩ = some (.int .i64 nl.f6) ∧ w'.cell? ⟨gr, dr + 6, none⟩ = some (.int .i64 nr.f6)) ∧ Kd.R (Kd.int .u8) 5 w' w.heap.size (fun k => k ≠ s_.2.2) (.slice s_.1 (firstB c0 depth).length s_.2.1) (firstB c0 depth) ∧ NdB w' s_.2.2 zeroR ∧ Below w.heap.size w w' ∧ w.heap.size ≤ s_.2.2) ?_ ?_
  rotate_left
  · intro hCont
    refine two_ (i := 3) (j := 16) (Ni := some 48) (Nj := some 14) #[true, true, true, true, true, true, true, true, true, true, true, true, true, true, true, false, false, false] #[true, true, true, false, true, true, true, true, true, true, true, true, true, true, true, false, true, false] rfl rfl rfl rfl (two_of HT_.out (by kernel_rfl)) (by decide) (by decide) (fun K hK => ?_) (fun K hK => ?_)
    · skip
      refine goes_ Tryd.func77 (by kernel_rfl) rfl #[.slice A c0.length cc, .int .i64 depth] (by rfl) rfl rfl (by (try simp only [List.map_toArray, List.map_cons, List.map_nil]); first | done | rfl) ?_
      with_reducible refine (HFIRST.out _ HB.out).mono ?_
      rintro e w23 ⟨v5, rfl, hR5, hb⟩
      obtain ⟨B5, d5, rfl⟩ := Kd.R_slice hR5
      refine ⟨_, rfl, ?_⟩
      have hbs := HB.out.size
      have HR5 := Aside0.mk (Kd.R_lower hR5 hbs)
      have HL5 := Aside0.mk (Kd.R_bound hR5)
      replace HB := Aside0.mk (below_step HB.out hb)
      refine hK.out _ _ (HSOK.out _ HB.out) (fun hHeld => ?_)
      clear hK K
      refine norm_ (a' := ?_) ?_ ?_
      rotate_left
      · show Act.put _ (some 48) _ = _
        simp only [Act.put, List.setIfInBounds_toArray, List.set_cons_zero, List.set_cons_succ, i64_w, i32_w]
        rfl
      refine pure_ (i := 15) (N := some 60) (v := ?_) (a' := ?_) #[true, true, true, true, true, true, true, true, true, true, true, true, true, true, true, true, false, false] rfl rfl (any_of HT_.out (by kernel_rfl)) (fun _ _ _ h => h) (Or.inl ⟨by rfl, ?_⟩) ?_ ?_
      rotate_left
      · intro w'
        go_simp
        with_reducible rfl
      rotate_left
      · simp only [Act.put, List.setIfInBounds_toArray, List.set_cons_zero, List.set_cons_succ, i64_w, i32_w]
        rfl
      refine one_ (i := 16) (N := some 14) #[true, true, true, true, true, true, true, true, true, true, true, true, true, true, true, true, true, false] rfl rfl (one_of HT_.out (by kernel_rfl)) (by decide) (fun K hK => ?_)
      refine box_step ?hg (N := 14) ?hd (cs := #[.bool false, .slice none 0 0, .slice none 0 0, .int .i64 0, .int .i64 0, .slice none 0 0, .int .i64 0, .int .i64 0, .int .i64 0, .slice none 0 0]) (t := 39) ?hr ?_; (case hd => rfl); (case hg => rfl); (case hr => first | (go_simp; done) | (go_simp; rfl))
      intro g hg w24 hbox hb
      have HGE := Aside0.mk (show w.heap.size ≤ g from by have := HB.out.size; omega)
      have HG := Aside0.mk (show NdB w24 g zeroR from hbox)
      replace HR5 := Aside0.mk (Kd.R_mono (Kd.R_below (Kd.R_bound HR5.out) hb) (ok' := fun k => k ≠ g) (fun k hk => by have := hk.2.2.1; omega))
      replace HB := Aside0.mk (below_step HB.out hb)
      refine hK.out _ _ (HSOK.out _ HB.out) (fun hHeld => ?_)
      clear hK K
      refine norm_ (a' := ?_) ?_ ?_
      rotate_left
      · show Act.put _ (some 14) _ = _
        simp only [Act.put, List.setIfInBounds_toArray, List.set_cons_zero, List.set_cons_succ, i64_w, i32_w]
        rfl
      exact norm_ (by simp only [putAll, Act.put, List.setIfInBounds_toArray, List.set_cons_zero, List.set_cons_succ]) (hCont (B5, d5, g) _ ⟨hHeld, HR5.out, HG.out, HB.out, HGE.out⟩)
    · skip
      refine box_step ?hg (N := 14) ?hd (cs := #[.bool false, .slice none 0 0, .slice none 0 0, .int .i64 0, .int .i64 0, .slice none 0 0, .int .i64 0, .int .i64 0, .int .i64 0, .slice none 0 0]) (t := 39) ?hr ?_; (case hd => rfl); (case hg => rfl); (case hr => first | (go_simp; done) | (go_simp; rfl))
      intro g hg w24 hbox hb
      have HGE := Aside0.mk (show w.heap.size ≤ g ∧ g < w24.heap.size from ⟨by have := HB.out.size; omega, blk_lt hbox⟩)
      have HG := Aside0.mk (show NdB w24 g zeroR from hbox)
      replace HB := Aside0.mk (below_step HB.out hb)
      refine hK.out _ _ (HSOK.out _ HB.out) (fun hHeld => ?_)
      clear hK K
      refine norm_ (a' := ?_) ?_ ?_
      rotate_left
      · show Act.put _ (some 14) _ = _
        simp only [Act.put, List.setIfInBounds_toArray, List.set_cons_zero, List.set_cons_succ, i64_w, i32_w]
        rfl
      refine one_ (i := 3) (N := some 48) #[true, true, true, true, true, true, true, true, true, true, true, true, true, true, true, false, true, false] rfl rfl (one_of HT_.out (by kernel_rfl)) (by decide) (fun K hK => ?_)
      refine goes_ Tryd.func77 (by kernel_rfl) rfl #[.slice A c0.length cc, .int .i64 depth] (by rfl) rfl rfl (by (try simp only [List.map_toArray, List.map_cons, List.map_nil]); first | done | rfl) ?_
      with_reducible refine (HFIRST.out _ HB.out).mono ?_
      rintro e w23 ⟨v5, rfl, hR5, hb⟩
      obtain ⟨B5, d5, rfl⟩ := Kd.R_slice hR5
      refine ⟨_, rfl, ?_⟩
      have hbs := HB.out.size
      have HR5 := Aside0.mk (Kd.R_lower (Kd.R_mono (Kd.R_bound hR5) (ok' := fun k => k ≠ g) (fun k hk => by have := hk.2.1; have := HGE.out.2; omega)) hbs)
      replace HG := Aside0.mk (HG.out.below hb)
      replace HGE := Aside0.mk HGE.out.1
      replace HB := Aside0.mk (below_step HB.out hb)
      refine hK.out _ _ (HSOK.out _ HB.out) (fun hHeld => ?_)
      clear hK K
      refine norm_ (a' := ?_) ?_ ?_
      rotate_left
      · show Act.put _ (some 48) _ = _
        simp only [Act.put, List.setIfInBounds_toArray, List.set_cons_zero, List.set_cons_succ, i64_w, i32_w]
        rfl
      refine pure_ (i := 15) (N := some 60) (v := ?_) (a' := ?_) #[true, true, true, true, true, true, true, true, true, true, true, true, true, true, true, true, true, false] rfl rfl (any_of HT_.out (by kernel_rfl)) (fun _ _ _ h => h) (Or.inl ⟨by rfl, ?_⟩) ?_ ?_
      rotate_left
      · intro w'
        go_simp
        with_reducible rfl
      rotate_left
      · simp only [Act.put, List.setIfInBounds_toArray, List.set_cons_zero, List.set_cons_succ, i64_w, i32_w]
        rfl
      exact norm_ (by simp only [putAll, Act.put, List.setIfInBounds_toArray, List.set_cons_zero, List.set_cons_succ]) (hCont (B5, d5, g) _ ⟨hHeld, HR5.out, HG.out, HB.out, HGE.out⟩)
  rintro ⟨B5, d5, g⟩ w4 ⟨hHeld, hR5, hg, hb, hge⟩
  refine norm_ (a' := ?_) ?_ ?_
  rotate_left
  · simp only [putAll, Act.put, List.setIfInBounds_toArray, List.set_cons_zero, List.set_cons_succ]
    rfl
  refine one_ (i := 17) (N := none) #[true, true, true, true, true, true, true, true, true, true, true, true, true, true, true, true, true, true] rfl rfl (one_of HT_.out (by kernel_rfl)) (by decide) (fun K hK => ?_)
  obtain ⟨nw, hnw⟩ : ∃ nw, nw = (if nl.f6 < nr.f6 then nr.f6 else nl.f6) := ⟨_, rfl⟩
  have HNW := Aside0.mk hnw
  obtain ⟨w5, hw5⟩ : ∃ w5, w5 = putN w4 g (.bool false) (.slice none 0 0) (.slice none 0 0) (.int .i64 0) (.int .i64 depth) (.slice B5 (firstB c0 depth).length d5) (.int .i64 nw) (.int .i64 left) (.int .i64 right) (.slice none 0 0) := ⟨_, rfl⟩
  have HG5 := Aside0.mk (show NdB w5 g [.bool false, .slice none 0 0, .slice none 0 0, .int .i64 0, .int .i64 depth, .slice B5 (firstB c0 depth).length d5, .int .i64 nw, .int .i64 left, .int .i64 right, .slice none 0 0] from by rw [hw5]; exact putN_nd hg _ _ _ _ _ _ _ _ _ _)
  have HB5 := Aside0.mk (show Below w.heap.size w w5 from by rw [hw5]; exact putN_below hb hge _ _ _ _ _ _ _ _ _ _)
  have HR5 := Aside0.mk (show Kd.R (Kd.int .u8) 5 w5 w.heap.size (fun k => k ≠ g) (.slice B5 (firstB c0 depth).length d5) (firstB c0 depth) from by rw [hw5]; exact Kd.R_step hR5 (fun k hk _ => putN_far hk _ _ _ _ _ _ _ _ _ _))
  have HGE := Aside0.mk hge
  obtain ⟨z0, z1, z2, z3, z4, z5, z6, z7, z8, z9⟩ := NdB.cells hg
  obtain ⟨f0, f1, f2, f3, f4, f5, f6, f7, f8, f9⟩ := hg.frozen
  clear hR5
  refine skip_ (w1 := w5) (by rfl) rfl ?_ ?_
  · rw [hw5, hnw]
    go_simp <;> first | rfl | done
  clear z0 z1 z2 z3 z4 z5 z6 z7 z8 z9 f0 f1 f2 f3 f4 f5 f6 f7 f8 f9 hw5 hg hb hge hHeld
  refine hK.out _ _ (HSOK.out _ HB5.out) (fun hHeld => ?_)
  clear hK K hHeld
  refine done_ (done_of HT_.out (by kernel_rfl)) ?_
  clear HFIRST HSOK
  have HNV := HNW
  obtain ⟨c5, hc5⟩ : ∃ c5, c5 = firstB c0 depth := ⟨_, rfl⟩
  have HC5 := Aside0.mk hc5
  have HL5 := Aside0.mk (show c5.length ≤ 65535 from by rw [hc5]; exact Nat.le_trans (firstB_length c0 depth) H65.out)
  rw [← hc5] at HG5 HR5
  rw [← hc5]
  clear hc5
  try rw [← HNW.out]
  clear hnw
  go_wp2_with fail
  refine still_tail_at 17 (by kernel_rfl) (by kernel_rfl) (fun W hW => ?_)
  have hbw : Below w5.heap.size w5 W := by rw [hW]; exact below_drew (Below.refl _ _)
  clear hW
  have HG6 := Aside0.mk (HG5.out.below hbw)
  have HB6 := Aside0.mk (below_step HB5.out hbw)
  have HR6 := Aside0.mk (Kd.R_below HR5.out hbw)
  clear hbw HG5 HB5 HR5
  obtain ⟨k0, k1, k2, k3⟩ := (HBk.out.below HB6.out).cells
  obtain ⟨z0, z1, z2, z3, z4, z5, z6, z7, z8, z9⟩ := NdB.cells HG6.out
  obtain ⟨l9, r9⟩ := HS9.out W HB6.out
  have hgW := blk_lt HG6.out
  simp only [List.take_succ_cons, List.take_zero, List.drop_succ_cons, List.drop_zero]
  repeat still_step
  refine wpStill_nil ?_
  go_wp2_with fail
  obtain ⟨lh, hlh⟩ : ∃ lh, lh = hashB size 2 [num8 depth, firstB c5 depth, num8 nw, nl.f9, nr.f9] := ⟨_, rfl⟩
  have HLH := Aside0.mk hlh
  have hhash := arena_ForkHash.calls 9 size depth B5 d5 c5 nw (fun k => X k ∧ k < w.heap.size) LA9 lc9 nl.f9 (fun k => X k ∧ k < w.heap.size) RA9 rc9 nr.f9 lh W (FreeU8 HR6.out) (Kd.R_reads' HR6.out).2.1 (Kd.V_below (Kd.V_bound HL9.out) HB6.out) (Kd.V_below (Kd.V_bound HR9.out) HB6.out) (GlobS.of HGS.out HB6.out) (by rw [hlh]; exact fork_f 9 (by decide) size depth c5 nw nl.f9 nr.f9 (by have := HL5.out; omega))
  clear hlh
  refine hhash.mono ?_
  clear hhash
  rintro e3 w7 ⟨v, rfl, hV4, hB4⟩
  obtain ⟨B9, d9, rfl⟩ := Kd.V_slice hV4
  have HV4 := Aside0.mk hV4
  have HB4 := Aside0.mk hB4
  have HG7 := Aside0.mk (HG6.out.below hB4)
  clear hV4 hB4 z0 z1 z2 z3 z4 z5 z6 z7 z8 z9 l9 r9 k0 k1 k2 k3
  obtain ⟨z0, z1, z2, z3, z4, z5, z6, z7, z8, z9⟩ := NdB.cells HG7.out
  have f9 := blk_frozen HG7.out 9
  go_wp2_with fail
  clear z0 z1 z2 z3 z4 z5 z6 z7 z8 z9 f9
  obtain ⟨W8, hW8⟩ : ∃ W8, W8 = w7.setCell ⟨g, 9, none⟩ (.slice B9 lh.length d9) := ⟨_, rfl⟩
  rw [← hW8]
  have hge : w.heap.size ≤ g := HGE.out
  have hgW2 : g < W.heap.size := blk_lt HG6.out
  have s6 := HB6.out.size
  have s4 := HB4.out.size
  have hB07 : Below w.heap.size w w7 := HB6.out.trans (HB4.out.mono s6)
  have hB08 : Below w.heap.size w W8 := by rw [hW8]; exact Below.setCell hB07 (by show w.heap.size ≤ g; exact hge) _
  have hsz : W8.heap.size = w7.heap.size := by rw [hW8]; simp [World.setCell]
  have hfar : ∀ k, k ≠ g → W8.heap[k]? = w7.heap[k]? := fun k hk => by rw [hW8]; exact Below.heap_setCell w7 ⟨g, 9, none⟩ _ k hk
  obtain ⟨X4, hX4⟩ : ∃ X4 : Nat → Prop, X4 = fun k => X k ∨ (w.heap.size ≤ k ∧ k < w7.heap.size ∧ k ≠ g) := ⟨_, rfl⟩
  have hsepX : ∀ k, X k → k < w.heap.size ∧ ¬ OwnS p vc vf k := by
    obtain ⟨rows, fr, hv⟩ := HM.out.mem
    exact hv.sep
  have hownlt : ∀ k, OwnS p vc vf k → k < w.heap.size := by
    obtain ⟨rows, fr, hv⟩ := HM.out.mem
    exact hv.own_lt
  have hM5 : ArenaM W8 base p size room vc vf X4 cs := HM.out.step (by omega) (fun k hk _ => hB08.block k hk) (fun k hx => by rw [hX4]; exact .inl hx) (fun k hx => by
    rw [hX4] at hx
    rcases hx with hx | hx
    · exact ⟨by have := (hsepX k hx).1; omega, (hsepX k hx).2⟩
    · exact ⟨by omega, fun ho => by have := hownlt k ho; omega⟩)
  have hb5 : BX W8 X4 (.slice B5 c5.length d5) c5 := by
    have h1 := Kd.R_V (base' := 0) (Kd.R_bound HR6.out)
    refine Kd.V_mono (Kd.V_step h1 (fun k hk hl => ?_)) (fun k hk => by rw [hX4]; exact .inr ⟨hk.2.1, by have := hk.2.2.1; omega, hk.1⟩)
    rw [hfar k hk.1, HB4.out.block k hl]
  have hb9 : BX W8 X4 (.slice B9 lh.length d9) lh := by
    have h1 := Kd.V_bound HV4.out
    refine Kd.V_mono (Kd.V_step h1 (fun k hk hl => ?_)) (fun k hk => ?_)
    · refine hfar k ?_
      rcases hk.1 with (hk1 | hk1) | hk1
      · have := hk1.2
        omega
      · have := hk1.2
        omega
      · omega
    · rw [hX4]
      rcases hk.1 with (hk1 | hk1) | hk1
      · exact .inl hk1.1
      · exact .inl hk1.1
      · exact .inr ⟨by omega, hk.2, by omega⟩
  have HGR := Aside0.mk (show Grew w X X4 from fun k hk => by
    rw [hX4] at hk
    exact hk.imp id (fun h => h.1))
  have HB08 := Aside0.mk hB08
  have hput := put_calls hM5 ⟨false, [], [], 0, depth, c5, nw, left, right, lh⟩ none none B5 B9 0 0 d5 d9 (Kd.V_nil _ _ _ _ _) (Kd.V_nil _ _ _ _ _) hb5 hb9
  clear hM5 hb5 hb9 hX4 hsepX hownlt hfar hsz hB08 hB07 s6 s4 hW8 hge hgW2
  refine hput.mono ?_
  rintro e5 w9 hpost
  have HPO := Aside0.mk hpost
  clear hpost hput
  by_cases hfull : (usedN cs : Int) = room
  · have hp := HPO.out
    rw [if_pos hfull] at hp
    obtain ⟨rfl, hp⟩ := hp
    have HP := Aside0.mk hp
    have HFU := Aside0.mk hfull
    clear hp HPO hfull
    go_wp2_with fail
    go_ret2
    exact ⟨fun h => absurd h HC.out, fun _ _ => ⟨rfl, HP.out.start HGR.out HB08.out HBW.out.1⟩, fun _ h => absurd HFU.out h⟩
  · have hp := HPO.out
    rw [if_neg hfull] at hp
    obtain ⟨rfl, hp⟩ := hp
    have HP := Aside0.mk hp
    have HFU := Aside0.mk hfull
    clear hp HPO hfull
    go_wp2_with fail
    go_ret2
    refine ⟨fun h => absurd h HC.out, fun _ h => absurd h HFU.out, fun _ _ => ⟨rfl, ?_⟩⟩
    rw [HOF.out]
    unfold forkNd
    rw [← HNW.out, ← HC5.out, ← HLH.out]
    exact HP.out.start HGR.out HB08.out HBW.out.1
end Go.Proofs.YtdeneoknjeegbaaDoor.P
end
section
set_option linter.unusedVariables false
set_option linter.unusedSimpArgs false
namespace Go.Proofs.YtdeneoknjeegbaaDoor.P
open Go.RowKit Go.Proofs.YtdeneoknjeegbaaDoorW.PrintWords Go.Proofs.YtdeneoknjeegbaaDoorW.PrintLast Go.Proofs.YtdeneoknjeegbaaDoorW.PrintMore
theorem ArenaM.clear {w w1 w2 : World} {base p : Nat} {size room : Int} {vc vf vf' : Value} {X : Nat → Prop} {rows : List (List Value)} {fr fr' : List Int} {cs : Cs} (h : ArenaM w base p size room vc vf X cs) (hv : ArenaV w base p size room vc vf X rows fr cs) (j : Nat) (n : Nd) (hj : cs[j]? = some (some n))
    (hR1 : CellsR w1 base vc (rows.set j cell0)) (hg1 : w.grownBy w1 vc.ownBlock)
    (hB2 : ABlk w2 p size room vc vf') (hF2 : FreeR w2 base vf' fr') (hH2 : HeapN fr'.length fr') (hp : fr'.Perm (fr ++ [(j : Int)])) (hat : vf'.ownBlock = vf.ownBlock ∨ ∃ b, vf'.ownBlock = some b ∧ w1.heap.size ≤ b) (hk : KeepBut w1 w2 p vf.ownBlock) :
    ArenaM w2 base p size room vc vf' X (cs.set j none) ∧ Grew w (OwnS p vc vf) (OwnS p vc vf') ∧ Kept w w2 (OwnS p vc vf) := by
  have hcf : ∀ k, vc.ownBlock = some k → k ≠ p ∧ some k ≠ vf.ownBlock := fun k ho => by
    obtain ⟨cells, hc⟩ := own_typed (Kd.R_own hv.cells).choose_spec k ho
    refine ⟨fun e => ?_, Kd.R_ne hv.free hc (by decide)⟩
    subst e
    exact Kd.R_ne hv.cells hv.blk (by decide) ho.symm
  have hkept : Kept w w2 (OwnS p vc vf) := ⟨Nat.le_trans hg1.size hk.1, fun k hlt hn => (hk.2 k (Nat.lt_of_lt_of_le hlt hg1.size) (fun e => hn (.inl e)) (fun e => hn (.inr (.inr e)))).trans (hg1.block k hlt (fun e => hn (.inr (.inl e))))⟩
  have hgr : Grew w (OwnS p vc vf) (OwnS p vc vf') := fun k hx => by
    rcases hx with hx | hx | hx
    · exact .inl (.inl hx)
    · exact .inl (.inr (.inl hx))
    · rcases hat with h1 | ⟨b, h1, h2⟩
      · exact .inl (.inr (.inr (hx.trans h1)))
      · rw [h1] at hx
        obtain rfl := Option.some.inj hx
        exact .inr (Nat.le_trans hg1.size h2)
  have hX : ∀ k, X k → k < w.heap.size → w2.heap[k]? = w.heap[k]? := fun k hx hl => hkept.2 k hl (hv.sep k hx).2
  have hR2 : CellsR w2 base vc (rows.set j cell0) := Kd.R_mono (Kd.R_step (Kd.R_reok (ok := fun k => some k = vc.ownBlock) rfl hR1 (fun k e => e.symm)) (fun k hx hl => hk.2 k hl (hcf k hx.symm).1 (hcf k hx.symm).2)) (fun _ _ => trivial)
  refine ⟨⟨⟨_, fr', hB2, hR2, hF2, hH2, hv.ok.clear j n hj hp, by rw [List.length_set, List.length_set]; exact hv.len, fun i o r hi hr => ?_, fun k hx => ⟨Nat.lt_of_lt_of_le (hv.sep k hx).1 hkept.1, fun ho => (hgr k ho).elim (hv.sep k hx).2 (fun h1 => by have := (hv.sep k hx).1; omega)⟩⟩, h.hb, h.hs, h.hr, by rw [List.length_set]; exact h.hl⟩, hgr, hkept⟩
  have hlt : j < cs.length := (List.getElem?_eq_some_iff.1 hj).1
  by_cases hij : i = j
  · subst hij
    rw [List.getElem?_set_self hlt] at hi
    rw [List.getElem?_set_self (by rw [hv.len]; exact hlt)] at hr
    obtain rfl := Option.some.inj hi
    obtain rfl := Option.some.inj hr
    exact ⟨_, rfl⟩
  · rw [List.getElem?_set_ne (Ne.symm hij)] at hi
    rw [List.getElem?_set_ne (Ne.symm hij)] at hr
    exact (hv.row i o r hi hr).step hX (fun _ h => h)
theorem make_bools (w : World) (n : Nat) (hn : n ≤ 4194304) : ∃ w1, (Instr.makeSlice 86 (.int .i64 (n : Int)) (.int .i64 (n : Int))).run Tryd.prog w = .ok (.slice (some ⟨w.heap.size, 0, none⟩) n n) w1 ∧ Below w.heap.size w w1 ∧ w.heap.size < w1.heap.size ∧ MarksR w1 w.heap.size (.slice (some ⟨w.heap.size, 0, none⟩) n n) (List.replicate n false) := by
  obtain ⟨i0, hi, hz⟩ := Option.map_eq_some_iff.1 (show (Tryd.prog.info? 4).map (fun i => (i.zero, i.size, i.bytes)) = some (some (.bool false), 1, 1) from by kernel_rfl)
  simp only [Prod.mk.injEq] at hz
  obtain ⟨hz0, hz1, hz2⟩ := hz
  have h := run_make (P := Tryd.prog) w 86 4 i0 (.bool false) Tryd.underlying86 hi hz0 .i64 .i64 (n : Int) (n : Int) (by omega) (by omega) (by rw [hz2]; omega) (by omega)
  rw [Int.toNat_natCast, hz1] at h
  refine ⟨_, h, below_alloc (Below.refl _ _) _, by simp, fun _ _ => trivial, (madeCells (Value.bool false).cells (n * 1)).toList, ?_, ?_⟩
  · have h2 := World.ownsRow_lit (base := w.heap.size) (e := 4) (size := 1) w (madeCells (Value.bool false).cells (n * 1)) n (Nat.le_refl _) (by unfold maxLen; omega) (by simp [size_madeCells])
    rw [List.length_replicate]
    exact h2
  · exact Kd.reps_made (R := fun (x : Bool) (cs : List Value) => cs = [Value.bool x]) (z := .bool false) (size := 1) (z0 := false) rfl (by omega) rfl n
theorem ArenaM.usedAt {w : World} {base p n cc : Nat} {size room : Int} {Ac : Option Addr} {vf : Value} {X : Nat → Prop} {cs : Cs} (h : ArenaM w base p size room (.slice Ac n cc) vf X cs) (j : Nat) (hj : j < cs.length) : ∃ gc, Ac = some ⟨gc, 0, none⟩ ∧ w.cell? ⟨gc, j * 11, none⟩ = some (.bool (nodeAt cs (j : Int)).isSome) := by
  obtain ⟨rows, fr, hv⟩ := h.mem
  have hlen := hv.len
  have hk : j < rows.length := by omega
  have hro : rows[j]? = some rows[j] := List.getElem?_eq_getElem hk
  obtain ⟨o, ho⟩ : ∃ o, cs[j]? = some o := ⟨_, List.getElem?_eq_getElem hj⟩
  have hok := hv.row j o _ ho hro
  obtain ⟨_, g, c', e, hc⟩ := raw_row hv.cells j _ hro
  injection e with e1 e2 e3
  refine ⟨g, e1, ?_⟩
  have hn : nodeAt cs (j : Int) = o := by
    unfold nodeAt
    rw [if_pos (by omega), Int.toNat_natCast, ho]
    rfl
  rw [hn]
  cases o with
  | none =>
    obtain ⟨t, ht⟩ := hok
    exact (by simpa using hc 0 (.bool false) (by rw [ht]; rfl))
  | some n =>
    obtain ⟨t, ht, hrow⟩ := hok
    exact (by simpa using hc 0 (.bool true) (by rw [ht]; rfl))
theorem clear_step {ops : Array Oper} {rest : List Oper} {o : Oper} {a : Act} {Q : Exit → Act → World → Prop} {W : World} (base : Nat) (hN : o.dst = none) (hgd : o.guard = none) (p x : Operand) (ho : o.op = .store 89 p x) {g n cap : Nat} (j : Nat) (rows : List (List Value))
    (haddr : a.eval p = .pointer (some ⟨g, j * 11, none⟩)) (hx : a.eval x = .agg cell0.toArray) (HO : CellsR W base (.slice (some ⟨g, 0, none⟩) n cap) rows) (hj : j < n)
    (h : ∀ w1, CellsR w1 base (.slice (some ⟨g, 0, none⟩) n cap) (rows.set j cell0) → Below base W w1 → W.grownBy w1 (some g) → wpList Tryd.prog ops Q rest a w1) : wpList Tryd.prog ops Q (o :: rest) a W := by
  have hn := (Kd.R_reads' HO).1
  have hro : rows[j]? = some (rows[j]'(by omega)) := List.getElem?_eq_getElem (by omega)
  obtain ⟨hl11, g', c', e, hc⟩ := raw_row HO j _ hro
  injection e with e1 e2 e3
  injection e1 with e1
  injection e1 with e1
  subst e1
  refine Kd.R_store (Kd.raw 11) (w0 := W) base hN hgd 89 p x ho 89 (g := g) (n := n) (cap := cap) (o' := j * 11) (j : Int) 0 rows cell0 (.agg cell0.toArray) cell0 (rows[j]'(by omega)) (fun _ => True) (fun _ => False) haddr (by rw [Int.toNat_natCast]; rfl) hx rfl (by kernel_rfl) ?_ HO (by omega) (by omega) hl11 (fun jj u hu => ?_) (Nat.le_refl 11) ?_ (fun _ h => h.elim) (Below.refl _ _) (fun w1 hR hB hg => ?_)
  · intro q hq
    simp only [cell0, List.mem_cons, List.not_mem_nil, or_false] at hq
    rcases hq with rfl | rfl | rfl | rfl | rfl | rfl | rfl | rfl | rfl | rfl | rfl <;> rfl
  · rw [Int.toNat_natCast]
    exact hc jj u hu
  · have h2 : (rows[j]'(by omega)).take 0 ++ cell0 ++ (rows[j]'(by omega)).drop (0 + cell0.length) = cell0 := by
      rw [List.drop_of_length_le (by have : cell0.length = 11 := rfl; omega)]
      rfl
    rw [h2]
    refine ⟨rfl, rfl, ?_⟩
    intro q hq
    simp only [cell0, List.mem_cons, List.not_mem_nil, or_false] at hq
    rcases hq with rfl | rfl | rfl | rfl | rfl | rfl | rfl | rfl | rfl | rfl | rfl <;> rfl
  · rw [Int.toNat_natCast] at hR
    exact h w1 hR hB hg
theorem keptThen {w w1 w2 : World} {A B : Nat → Prop} (h : Kept w w1 A) (hg : Grew w A B) (k : Kept w1 w2 B) : Kept w w2 A :=
  ⟨Nat.le_trans h.1 k.1, fun x hx hn => (k.2 x (Nat.lt_of_lt_of_le hx h.1) (fun hb => (hg x hb).elim hn (fun hge => by omega))).trans (h.2 x hx hn)⟩
structure SwI (w wr : World) (base p gm n : Nat) (size room : Int) (vc vf vf' : Value) (X : Nat → Prop) (ms : List Bool) (cs' : Cs) : Prop where
  m : ArenaM wr base p size room vc vf' X cs'
  g : Grew w (OwnS p vc vf) (OwnS p vc vf')
  k : Kept w wr (OwnS p vc vf)
  b : Below base w wr
  ms : MarksR wr w.heap.size (.slice (some ⟨gm, 0, none⟩) n n) ms
  ng : ¬ OwnS p vc vf' gm
set_option maxHeartbeats 8000000 in
set_option maxRecDepth 100000 in
theorem sweepA_calls {w : World} {base p : Nat} {size room : Int} {vc vf : Value} {X : Nat → Prop} {cs : Cs} (h : ArenaM w base p size room vc vf X cs) (A : Option Addr) (cr : Nat) (roots : List Int) (hr : Kd.V (Kd.int .i64) 3 w 0 (fun k => k < w.heap.size) (.slice A roots.length cr) roots) (hrn : roots.length ≤ 4294967296) :
    Calls Tryd.prog 16 #[.pointer (some ⟨p, 0, none⟩), .slice A roots.length cr] w fun e w' => ∃ ms, Dfs cs roots [] ms ∧ e = .returned (.int .i64 ((sweepS ms cs cs.length).2 : Int)) ∧ ArenaP w w' base p size room vc vf X (sweepS ms cs cs.length).1 := by
  have HBk := Aside0.mk (blkA h)
  have HS := Aside0.mk (show size ≠ 0 by have := h.hs; omega)
  have HM := Aside0.mk h
  have HRT := Aside0.mk hr
  obtain ⟨rows, fr, hv⟩ := h.mem
  obtain ⟨Ac, cc, hvc⟩ := Kd.R_slice hv.cells
  have HLEN := Aside0.mk (show rows.length = cs.length ∧ cs.length ≤ 4194304 from ⟨hv.len, by have := h.hl; have := h.hr; omega⟩)
  have HOL := Aside0.mk (show (∀ k, OwnS p vc vf k → k < w.heap.size) ∧ ∀ k, X k → k < w.heap.size from ⟨hv.own_lt, fun k hk => (hv.sep k hk).1⟩)
  have HBW := Aside0.mk (show base ≤ w.heap.size from by have := h.hb; have := hv.blk.lt; omega)
  obtain ⟨n, hn⟩ : ∃ n, n = rows.length := ⟨_, rfl⟩
  have HN := Aside0.mk (show n = cs.length from hn.trans hv.len)
  rw [← hn] at hvc
  have HVC := Aside0.mk hvc
  have hb := blkA h
  rw [hvc] at hb
  obtain ⟨k0, k1, k2, k3⟩ := hb.cells
  have HRL := Aside0.mk hrn
  obtain ⟨w1, hmk, hb1, hlt1, hms1⟩ := make_bools w n (by have := HN.out; have := HLEN.out; omega)
  obtain ⟨gm, hgm⟩ : ∃ gm, gm = w.heap.size := ⟨_, rfl⟩
  rw [← hgm] at hmk hms1
  have HGM := Aside0.mk hgm
  have HB1 := Aside0.mk hb1
  have HMS1 := Aside0.mk hms1
  have HW1L := Aside0.mk hlt1
  clear h hr hv hvc hn hb hrn hb1 hms1 hgm hlt1
  go_enter Tryd.func16, Tryd.ntmps16
  go_wp2_with fail
  refine (none_calls HBk.out HS.out).mono ?_
  rintro e w' ⟨rfl, rfl⟩
  go_wp2_with fail
  clear hmk k0 k1 k2 k3
  have HM1 := Aside0.mk (HM.out.below HB1.out)
  have HNG := Aside0.mk (show ¬ OwnS p vc vf gm ∧ ¬ X gm from ⟨fun h => by have := HOL.out.1 gm h; have := HGM.out; omega, fun h => by have := HOL.out.2 gm h; have := HGM.out; omega⟩)
  have HD0 := Aside0.mk (show Dfs cs (roots.take 0) [] (List.replicate n false) from by rw [HN.out]; exact Dfs.start cs [])
  obtain ⟨m, hm⟩ : ∃ m, m = roots.length := ⟨_, rfl⟩
  rw [← hm]
  rw [← hm] at HRL HRT
  have HMR := Aside0.mk hm
  clear hm
  go_loopw [21] (fun v21 wr => ∃ (k : Nat) (ms : List Bool), k ≤ m ∧ v21 = .int .i64 (k : Int) ∧ Aside0 (MarksR wr gm (.slice (some ⟨gm, 0, none⟩) n n) ms) ∧ Aside0 (Dfs cs (roots.take k) [] ms) ∧ Aside0 (KB w1 wr gm)) (fun v21 _ => m - (intOf v21).toNat)
  case atStart => exact ⟨0, _, by omega, rfl, HMS1, HD0, ⟨KB.refl _ _⟩⟩
  case round =>
    clear HMS1 HD0
    obtain ⟨k, ms, hk, rfl, HMS, HD, HK⟩ := hrel
    by_cases h0 : k < m
    · have hd : decide ((k : Int) < (m : Int)) = true := decide_eq_true (by omega)
      have hV2 : Kd.V (Kd.int .i64) 3 wr 0 (fun k => k < w.heap.size) (.slice A m cr) roots := Kd.V_step (Kd.V_mono (Kd.V_below HRT.out HB1.out) (fun _ h => h)) (fun x hx hl => HK.out.k.2 x hl (by have := HGM.out; omega) (by simp))
      obtain ⟨ad, c8, e, hcl, hcK, hcc⟩ := Kd.C_get (Kd.V_reads' hV2).2.2 (0 : Int) k (by omega) (by have := HMR.out; omega)
      subst e
      have hc : wr.cell? (ad.add k) = some (.int .i64 (roots.getD k 0)) := by
        have h1 : c8 = [.int .i64 (roots.getD (k : Int).toNat 0)] := hcK
        have h2 := hcc 0 (.int .i64 (roots.getD (k : Int).toNat 0)) (by rw [h1]; rfl)
        rw [Int.toNat_natCast, show k * (Kd.int .i64).sz + 0 = k from by show k * 1 + 0 = k; omega] at h2
        exact h2
      obtain ⟨r, hr⟩ : ∃ r, r = roots.getD k 0 := ⟨_, rfl⟩
      rw [← hr] at hc
      have HR8 := Aside0.mk hr
      clear hcK hcc hcl hV2 hr c8
      go_wp2_with fail
      refine (mark_calls (HM1.out.keepB HNG.out HK.out) r (roots.take k) HMS.out HNG.out HD.out).mono ?_
      rintro e w' ⟨rfl, ms', hms', hd', hk'⟩
      have HMS' := Aside0.mk hms'
      have HD' := Aside0.mk (show Dfs cs (roots.take (k + 1)) [] ms' from by
        rw [List.take_succ_eq_append_getElem (by have := HMR.out; omega)]
        have h3 := HR8.out
        rw [List.getD_eq_getElem?_getD, List.getElem?_eq_getElem (by have := HMR.out; omega)] at h3
        rw [show roots[k]'(by have := HMR.out; omega) = r from h3.symm]
        exact hd')
      have HK' := Aside0.mk (HK.out.then_ hk')
      clear hms' hd' hk'
      have hw : wrap64 ((k : Int) + 1) = ((k + 1 : Nat) : Int) := by unfold wrap64; have := HRL.out; omega
      go_wp2_with fail
      go_roundw
      case measure =>
        rw [hw]
        simp only [intOf, Int.toNat_natCast]
        omega
      case rel => exact ⟨k + 1, ms', by omega, by rw [hw], HMS', HD', HK'⟩
    · obtain rfl : k = m := by omega
      have hd : decide ((k : Int) < (k : Int)) = false := decide_eq_false (by omega)
      have HDE := Aside0.mk (show Dfs cs roots [] ms from by have := HD.out; rwa [HMR.out, List.take_length] at this)
      clear h0 HD hd hk
      have HMW := Aside0.mk (HM1.out.keepB HNG.out HK.out)
      have HI0 := Aside0.mk (show SwI w wr base p gm n size room vc vf vf X ms (sweepS ms cs 0).1 from by
        have hs1 := HB1.out.size
        have hlt1 := HGM.out
        have hk2 := HK.out.k
        have hk3 := hk2.1
        refine ⟨HMW.out, Grew.refl _ _, ⟨by omega, fun x hx hn => (hk2.2 x (by omega) (by omega) (by simp)).trans (HB1.out.block x hx)⟩, ?_, by rw [← HGM.out]; exact HMS.out, HNG.out.1⟩
        exact (HB1.out.mono HBW.out).trans (HK.out.below (by have := HBW.out; omega) (by have := HBW.out; omega)))
      clear HM1 HK HMS HMW HB1 HW1L HRT
      go_wp2_with fail
      go_loopw [8, 32] (fun v8 v32 wr => ∃ (j : Nat) (vf' : Value), j ≤ n ∧ v32 = .int .i64 (j : Int) ∧ v8 = .int .i64 ((sweepS ms cs j).2 : Int) ∧ Aside0 (SwI w wr base p gm n size room vc vf vf' X ms (sweepS ms cs j).1)) (fun _ v32 _ => n - (intOf v32).toNat)
      case atStart => exact ⟨0, vf, by omega, rfl, rfl, HI0⟩
      case round =>
        clear HI0
        obtain ⟨j, vf', hj, rfl, rfl, HI⟩ := hrel
        by_cases h0 : j < n
        · have hd : decide ((j : Int) < (n : Int)) = true := decide_eq_true (by omega)
          have hw : wrap64 ((j : Int) + 1) = ((j + 1 : Nat) : Int) := by unfold wrap64; have := HN.out; have := HLEN.out; omega
          have hlj := sweepS_length ms cs j
          have hm := HI.out.m
          rw [HVC.out] at hm
          obtain ⟨gc, rfl, hused⟩ := hm.usedAt j (by have := HN.out; omega)
          obtain ⟨rows', fr', hv'⟩ := hm.mem
          have HV := Aside0.mk hv'
          have hk := blkA hm
          obtain ⟨k0, k1, k2, k3⟩ := hk.cells
          obtain ⟨b1, b2⟩ := MarksR.cell HI.out.ms j h0
          obtain ⟨bu, hbu⟩ : ∃ bu, bu = (nodeAt (sweepS ms cs j).1 (j : Int)).isSome := ⟨_, rfl⟩
          obtain ⟨bm, hbm⟩ : ∃ bm, bm = ms.getD j false := ⟨_, rfl⟩
          rw [← hbu] at hused
          rw [← hbm] at b1
          have HBU := Aside0.mk (show bu = (nodeAt cs (j : Int)).isSome from by
            rw [hbu]
            unfold nodeAt
            rw [if_pos (by omega), if_pos (by omega), Int.toNat_natCast, sweepS_at ms cs j j (Nat.le_refl _)])
          have HBM := Aside0.mk hbm
          obtain ⟨gone, hgone⟩ : ∃ gone, gone = (sweepS ms cs j).2 := ⟨_, rfl⟩
          rw [← hgone]
          have HGO := Aside0.mk hgone
          have q1 : (j : Int) < (n : Int) := by omega
          have q2 : 0 ≤ (j : Int) := by omega
          clear hm hk hv' hbu hbm hgone hlj
          cases bu with
          | false =>
            have HSW := Aside0.mk (show sweepS ms cs (j + 1) = sweepS ms cs j from by
              show (if _ then _ else _) = _
              rw [if_neg (by rw [← HBU.out]; simp)])
            go_wp2_with fail
            go_roundw
            case measure =>
              rw [hw]
              simp only [intOf, Int.toNat_natCast]
              omega
            case rel => exact ⟨j + 1, vf', by omega, by rw [hw], by rw [HSW.out, HGO.out], by rw [HSW.out]; exact HI⟩
          | true =>
            cases bm with
            | true =>
              have HSW := Aside0.mk (show sweepS ms cs (j + 1) = sweepS ms cs j from by
                show (if _ then _ else _) = _
                rw [if_neg (by rw [← HBM.out]; simp)])
              go_wp2_with fail
              go_roundw
              case measure =>
                rw [hw]
                simp only [intOf, Int.toNat_natCast]
                omega
              case rel => exact ⟨j + 1, vf', by omega, by rw [hw], by rw [HSW.out, HGO.out], by rw [HSW.out]; exact HI⟩
            | false =>
              have HSW := Aside0.mk (show sweepS ms cs (j + 1) = ((sweepS ms cs j).1.set j none, (sweepS ms cs j).2 + 1) from by
                show (if _ then _ else _) = _
                rw [if_pos ⟨HBU.out.symm, HBM.out.symm⟩])
              go_wp2_with (refine clear_step (W := wr) base rfl rfl (.tmp 55) (.tmp 54) rfl (g := gc) (n := n) (cap := cc) j rows' rfl rfl HV.out.cells h0 ?_; intro w4 hR4 hE4 hG4; have HE4 := Aside0.mk hE4; have HR4 := Aside0.mk hR4; have HG4 := Aside0.mk hG4; have HB4 := Aside0.mk (HV.out.blk.grown HV.out.cells hG4); have l0 := HB4.out.cells; obtain ⟨l0, l1, l2, l3⟩ := l0; clear hR4 hG4 hE4 k0 k1 k2 k3 hused b1 b2)
              have hgf : ∀ x, vf'.ownBlock = some x → some x ≠ some gc := fun x hx e => by
                obtain ⟨cells, hcg⟩ := own_typed (Kd.R_own HV.out.free).choose_spec x hx
                exact Kd.R_ne HV.out.cells hcg (by decide) (by rw [own_some, e])
              have hF4 : FreeR w4 base vf' fr' := Kd.R_grown2 HV.out.free rfl HG4.out (fun x hx => by
                injection hx with hx
                subst hx
                intro e
                exact hgf gc e.symm rfl)
              have hfl : fr'.length < 4194305 := by
                have h1 := HV.out.ok.len
                have h2 := sweepS_length ms cs j
                have := HLEN.out
                omega
              refine (hpush_calls HB4.out hF4 HI.out.m.hb (j : Int) hfl HV.out.heap).mono ?_
              rintro e w5 ⟨rfl, v5, fr5, hB5, hF5, hH5, hP5, hat5, hK5, hBel5⟩
              obtain ⟨nd, hnd⟩ : ∃ nd, nodeAt cs (j : Int) = some nd := Option.isSome_iff_exists.1 HBU.out.symm
              have hjn : (sweepS ms cs j).1[j]? = some (some nd) := by
                rw [sweepS_at ms cs j j (Nat.le_refl _)]
                unfold nodeAt at hnd
                rw [if_pos (by omega), Int.toNat_natCast] at hnd
                cases ho : cs[j]? with
                | none => rw [ho] at hnd; cases hnd
                | some o => rw [ho] at hnd; exact congrArg some hnd
              have hm := HI.out.m
              rw [HVC.out] at hm
              have hcl := ArenaM.clear hm HV.out j nd hjn HR4.out (by rw [own_some]; exact HG4.out) hB5 hF5 hH5 hP5 (by
                rcases hat5 with h | ⟨b, h1, h2⟩
                · exact .inl h
                · exact .inr ⟨b, h1, h2⟩) hK5
              rw [← HVC.out] at hcl
              have hgl : gm < wr.heap.size := own_lt (Kd.R_own HI.out.ms).choose_spec gm own_some
              have HI5 := Aside0.mk (show SwI w w5 base p gm n size room vc vf v5 X ms (sweepS ms cs (j + 1)).1 from by
                rw [HSW.out]
                refine ⟨hcl.1, HI.out.g.trans hcl.2.1 HI.out.k.1, keptThen HI.out.k HI.out.g hcl.2.2, HI.out.b.trans (HE4.out.trans hBel5), ?_, fun h => (hcl.2.1 gm h).elim HI.out.ng (fun h2 => by omega)⟩
                refine Kd.R_mono (Kd.R_step (Kd.R_reok (ok := fun x => some x = (Value.slice (some ⟨gm, 0, none⟩) n n).ownBlock) rfl HI.out.ms (fun x e => e.symm)) (fun x hx hl => ?_)) (fun _ _ => trivial)
                rw [own_some] at hx
                obtain rfl := Option.some.inj hx
                exact hcl.2.2.2 x hl HI.out.ng)
              have hw2 : wrap64 ((gone : Int) + 1) = ((gone + 1 : Nat) : Int) := by
                have h1 := sweepS_le ms cs j
                rw [← HGO.out] at h1
                have := HN.out
                have := HLEN.out
                unfold wrap64
                omega
              clear hB5 hF5 hH5 hP5 hat5 hK5 hBel5 hcl hjn hm hnd hF4 hgf l0 l1 l2 l3
              go_wp2_with fail
              go_roundw
              case measure =>
                rw [hw]
                simp only [intOf, Int.toNat_natCast]
                omega
              case rel => exact ⟨j + 1, v5, by omega, by rw [hw], by rw [HSW.out, hw2, HGO.out], HI5⟩
        · obtain rfl : j = n := by omega
          have hd : decide ((j : Int) < (j : Int)) = false := decide_eq_false (by omega)
          clear h0 hj
          go_wp2_with fail
          go_ret
          have hi := HI.out
          rw [HN.out] at hi ⊢
          exact ⟨ms, HDE.out, rfl, vc, vf', X, hi.m, hi.g, Grew.refl _ _, hi.k, hi.b⟩
end Go.Proofs.YtdeneoknjeegbaaDoor.P
end
