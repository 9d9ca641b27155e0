/- Lemmas of this claim, part 17. -/
import Derived.Test.YtdeneoknjeegbaaDoorPartArenaSwept16
section
set_option linter.unusedVariables false
set_option linter.unusedSimpArgs false
namespace Go.Proofs.YtdeneoknjeegbaaDoor.P
open Go.RowKit Go.Proofs.YtdeneoknjeegbaaDoor.Pure Go.Proofs.YtdeneoknjeegbaaDoorW.PrintWords Go.Proofs.YtdeneoknjeegbaaDoorW.PrintLast Go.Proofs.YtdeneoknjeegbaaDoorW.PrintMore
def rfork_T3 : Bool × List (List Nat × List Nat) := (true, [([], []), ([0], [0]), ([1], [1]), ([2], [2]), ([], []), ([3, 4], [3, 4]), ([5], [5]), ([], []), ([7], [7]), ([8], [8]), ([9], [9]), ([], []), ([10, 11], [10, 11]), ([12], [12]), ([], []), ([], []), ([14, 6, 0, 1, 2, 3, 4, 5, 6, 14, 15], [6, 14]), ([15, 13, 16, 0, 1, 2, 3, 4, 5, 6, 7, 8, 9, 10, 11, 12, 13, 14, 15, 16], [13, 15])])
def rfork_B3 : List Nat := [0, 1, 3, 7, 0, 31, 63, 0, 128, 384, 896, 0, 3968, 8064, 0, 0, 49279, 131071]
theorem rfork_tab3 : rtab .any (opsOf Tryd.f40 3) = rfork_T3 := by kernel_rfl
theorem rfork_bits3 : waitsOk rfork_T3.2 rfork_B3 = true := by kernel_rfl
def rfork_T4 : Bool × List (List Nat × List Nat) := (true, [([], []), ([], []), ([], []), ([1, 2], [1, 2]), ([], []), ([4], [4]), ([], []), ([6], [6]), ([5, 7], [5, 7]), ([], []), ([], []), ([0, 3, 8, 9, 10], [0, 3, 8, 9, 10]), ([], []), ([12, 11, 3, 0, 1, 2, 3, 4, 5, 6, 7, 8, 9, 10, 11, 12], [11, 12])])
def rfork_B4 : List Nat := [0, 0, 0, 6, 0, 16, 0, 64, 240, 0, 0, 2047, 0, 8191]
theorem rfork_tab4 : rtab .any (opsOf Tryd.f40 4) = rfork_T4 := by kernel_rfl
theorem rfork_bits4 : waitsOk rfork_T4.2 rfork_B4 = true := by kernel_rfl
def rfork_T5 : Bool × List (List Nat × List Nat) := (true, [([], []), ([0], [0]), ([1], [1]), ([2], [2]), ([], []), ([], []), ([], []), ([6], [6]), ([], []), ([8], [8]), ([], []), ([10], [10]), ([3, 4, 5, 7, 9, 11], [3, 4, 5, 7, 9, 11]), ([0, 1, 2, 3, 4, 5, 6, 7, 8, 9, 10, 11, 12], []), ([13, 12, 12, 0, 1, 2, 3, 4, 5, 6, 7, 8, 9, 10, 11, 12], [12, 13])])
def rfork_B5 : List Nat := [0, 1, 3, 7, 0, 0, 0, 64, 0, 256, 0, 1024, 4095, 8191, 16383]
theorem rfork_tab5 : rtab .any (opsOf Tryd.f40 5) = rfork_T5 := by kernel_rfl
theorem rfork_bits5 : waitsOk rfork_T5.2 rfork_B5 = true := by kernel_rfl
attribute [local go_sem] max2_int min2_int max_two min_two
def rforkNd (size depth : Int) (prefix_ : List Int) (left right : Int) (nl nr : Nd) : Nd := ⟨false, [], [], 0, depth, firstB prefix_ depth, (if nl.f6 < nr.f6 then nr.f6 else nl.f6), left, right, hashB size 2 [num8 depth, firstB prefix_ depth, num8 (if nl.f6 < nr.f6 then nr.f6 else nl.f6), nl.f9, nr.f9]⟩
def rforkOf (size : Int) (cs : Cs) (depth : Int) (prefix_ : List Int) (left right : Int) : Nd := match nodeAt cs left, nodeAt cs right with
  | some nl, some nr => rforkNd size depth prefix_ left right nl nr
  | _, _ => z39
set_option maxHeartbeats 8000000 in
set_option maxRecDepth 100000 in
theorem rfork_calls {w : World} {base q : Nat} {size most : Int} {vl : Value} {X : Nat → Prop} {cs : Cs} (h : RefM w base q size most vl X cs) (A : Option Addr) (cc : Nat) (c0 : List Int) (depth left right : Int) (hdep : depth ≤ 9223372036854775807)
    (b0 : BX w X (.slice A c0.length cc) c0) (o0 : BytesOk c0) (hcs : ∀ i n, nodeAt cs i = some n → NdLen n ∧ BytesOk n.f9) :
    Calls Tryd.prog 40 #[.pointer (some ⟨q, 0, none⟩), .int .i64 depth, .slice A c0.length cc, .int .i64 left, .int .i64 right] w
      fun e w' => RPost (forkBad cs depth c0 left right) w w' base q size most vl X cs (rforkOf size cs depth c0 left right) e := by
  have HM := Aside0.mk h
  have HB0 := Aside0.mk b0
  have HBW := Aside0.mk h.base_le
  obtain ⟨m8, hm8⟩ : ∃ m, wrap64 (8 * (c0.length : Int)) = m := ⟨_, rfl⟩
  have HM8 := Aside0.mk (show m8 < depth → 8 * (c0.length : Int) < depth ∨ 65535 < c0.length from fun hlt => by
    by_cases hl : 65535 < c0.length
    · exact .inr hl
    · rw [wrap64_id _ (by omega)] at hm8
      exact .inl (by omega))
  have HM9 := Aside0.mk (show depth ≤ m8 → c0.length ≤ 65535 → depth ≤ 8 * (c0.length : Int) from fun hlt hl => by
    rw [wrap64_id _ (by omega)] at hm8
    omega)
  have HTL := Aside0.mk (rthere_calls h left)
  have HTR := Aside0.mk (rthere_calls h right)
  clear h b0
  by_cases h1 : depth < 0
  · have hd1 := decide_eq_true h1
    have HC := Aside0.mk (show forkBad cs depth c0 left right from .inl h1)
    clear h1 hm8
    go_enter Tryd.func40, Tryd.ntmps40
    go_wp2_with fail
    go_ret2
    exact ⟨fun _ => ⟨rfl, RefP.of_below HM.out (Below.refl _ _)⟩, fun h => absurd HC.out h, fun h => absurd HC.out h⟩
  have hd1 := decide_eq_false h1
  by_cases h3 : (c0.length : Int) > 65535
  · have hd3 := decide_eq_true h3
    have hd4 : decide (65535 < c0.length) = true := decide_eq_true (by omega)
    have HC := Aside0.mk (show forkBad cs depth c0 left right from .inr (.inr (.inl (by omega))))
    clear h1 h3
    go_enter Tryd.func40, Tryd.ntmps40
    go_wp2_with fail
    go_ret2
    exact ⟨fun _ => ⟨rfl, RefP.of_below HM.out (Below.refl _ _)⟩, fun h => absurd HC.out h, fun h => absurd HC.out h⟩
  have hd3 := decide_eq_false h3
  have hd4 : decide (65535 < c0.length) = false := decide_eq_false (by omega)
  by_cases h2 : depth > m8
  · have hd2 := decide_eq_true h2
    have HC := Aside0.mk (show forkBad cs depth c0 left right from (HM8.out h2).elim (fun h => .inr (.inl h)) (fun h => .inr (.inr (.inl h))))
    clear h1 h2 h3
    go_enter Tryd.func40, Tryd.ntmps40
    go_wp2_with fail
    go_ret2
    exact ⟨fun _ => ⟨rfl, RefP.of_below HM.out (Below.refl _ _)⟩, fun h => absurd HC.out h, fun h => absurd HC.out h⟩
  have hd2 := decide_eq_false h2
  have H65 := Aside0.mk (show c0.length ≤ 65535 by omega)
  have H8 := Aside0.mk (HM9.out (by omega) (by omega))
  have H0D := Aside0.mk h1
  clear h1 h2 h3
  cases hol : nodeAt cs left with
  | none =>
    replace HTL := Aside0.mk (show Calls Tryd.prog 44 #[.pointer (some ⟨q, 0, none⟩), .int .i64 left] w fun e w' => e = .returned (.bool false) ∧ w = w' from by have := HTL.out; rwa [hol] at this)
    have HC := Aside0.mk (show forkBad cs depth c0 left right from .inr (.inr (.inr (.inl hol))))
    clear hol
    go_enter Tryd.func40, Tryd.ntmps40
    go_wp2_with fail
    refine HTL.out.mono ?_
    rintro e w' ⟨rfl, rfl⟩
    go_wp2_with fail
    go_ret2
    exact ⟨fun _ => ⟨rfl, RefP.of_below HM.out (Below.refl _ _)⟩, fun h => absurd HC.out h, fun h => absurd HC.out h⟩
  | some nl =>
  replace HTL := Aside0.mk (show Calls Tryd.prog 44 #[.pointer (some ⟨q, 0, none⟩), .int .i64 left] w fun e w' => e = .returned (.bool true) ∧ w = w' from by have := HTL.out; rwa [hol] at this)
  cases hor : nodeAt cs right with
  | none =>
    replace HTR := Aside0.mk (show Calls Tryd.prog 44 #[.pointer (some ⟨q, 0, none⟩), .int .i64 right] w fun e w' => e = .returned (.bool false) ∧ w = w' from by have := HTR.out; rwa [hor] at this)
    have HC := Aside0.mk (show forkBad cs depth c0 left right from .inr (.inr (.inr (.inr hor))))
    clear hol hor
    go_enter Tryd.func40, Tryd.ntmps40
    go_wp2_with fail
    refine HTL.out.mono ?_
    rintro e w' ⟨rfl, rfl⟩
    go_wp2_with fail
    refine HTR.out.mono ?_
    rintro e w' ⟨rfl, rfl⟩
    go_wp2_with fail
    go_ret2
    exact ⟨fun _ => ⟨rfl, RefP.of_below HM.out (Below.refl _ _)⟩, fun h => absurd HC.out h, fun h => absurd HC.out h⟩
  | some nr =>
  replace HTR := Aside0.mk (show Calls Tryd.prog 44 #[.pointer (some ⟨q, 0, none⟩), .int .i64 right] w fun e w' => e = .returned (.bool true) ∧ w = w' from by have := HTR.out; rwa [hor] at this)
  have HC := Aside0.mk (show ¬ forkBad cs depth c0 left right from fun hb => by
    rcases hb with hb | hb | hb | hb | hb
    · have := H0D.out
      omega
    · have := H8.out
      omega
    · have := H65.out
      omega
    · rw [hol] at hb
      cases hb
    · rw [hor] at hb
      cases hb)
  have HOF := Aside0.mk (show rforkOf size cs depth c0 left right = rforkNd size depth c0 left right nl nr by unfold rforkOf; rw [hol, hor])
  have HLN := Aside0.mk (And.intro (hcs left nl hol) (hcs right nr hor))
  have HOB := Aside0.mk o0
  have HDEP := Aside0.mk hdep
  obtain ⟨kl, rfl, hkl⟩ := nodeAt_some hol
  obtain ⟨kr, rfl, hkr⟩ := nodeAt_some hor
  obtain ⟨gA, mA, cA, LA1, LA2, LA5, LA9, lc1, lc2, lc5, lc9, hvl, hklm, hmc, b1, b2, b5, bl9, hml⟩ := HM.out.rowAt kl nl hkl
  obtain ⟨gB, mB, cB, RA1, RA2, RA5, RA9, rc1, rc2, rc5, rc9, hvl2, hkrm, hmc2, b1', b2', b5', br9, hmr⟩ := HM.out.rowAt kr nr hkr
  rw [hvl] at hvl2
  injection hvl2 with e1 e2 e3
  injection e1 with e1
  injection e1 with e1
  subst e1 e2 e3
  have HML := Aside0.mk hml
  have HMR := Aside0.mk hmr
  have hqb := HM.out.qblk
  have HK0 := Aside0.mk hqb.cells.1
  rw [hvl] at hqb
  have HK2 := Aside0.mk hqb.cells.2.2
  have HL9 := Aside0.mk bl9
  have HR9i := Aside0.mk br9
  have HFIRST0 := Aside0.mk (show ∀ W : World, Below w.heap.size w W → Calls Tryd.prog 79 #[.slice A c0.length cc, .int .i64 depth] W fun e w' => ∃ v0_ : Value, e = .returned (v0_) ∧ Kd.R (Kd.int .u8) 5 w' W.heap.size (fun _ => True) v0_ (firstB c0 depth) ∧ Below W.heap.size W w' from fun W hb => by
    refine (annalsref03_First.calls (2 * c0.length + 11) A cc c0 depth (firstB c0 depth) W (Kd.V_reads' (Kd.V_below HB0.out hb)).2.2 (Kd.V_reads' HB0.out).2.1 (rfirst_f c0 HOB.out depth (by have := H65.out; omega) HDEP.out _ (by omega))).mono ?_
    rintro e w' ⟨v, he, hR, hB⟩
    exact ⟨v, he, Kd.R_mono hR (fun _ _ => trivial), hB⟩)
  have HFORK := Aside0.mk (show ∀ (nw : Int) (W : World), Below w.heap.size w W → Calls Tryd.prog 80 #[.int .i64 size, .int .i64 depth, .slice A c0.length cc, .int .i64 nw, .slice LA9 nl.f9.length lc9, .slice RA9 nr.f9.length rc9] W fun e w' => ∃ v0_ : Value, e = .returned (v0_) ∧ Kd.R (Kd.int .u8) 5 w' W.heap.size (fun _ => True) v0_ (hashB size 2 [num8 depth, firstB c0 depth, num8 nw, nl.f9, nr.f9]) ∧ Below W.heap.size W w' from fun nw W hb => by
    refine (annalsref09_ForkHash.calls (2 * c0.length + 11) size depth A cc c0 nw (fun k => X k ∧ k < w.heap.size) LA9 lc9 nl.f9 (fun k => X k ∧ k < w.heap.size) RA9 rc9 nr.f9 _ W (Kd.V_reads' (Kd.V_below HB0.out hb)).2.2 (Kd.V_reads' HB0.out).2.1 (Kd.V_below (Kd.V_bound HL9.out) hb) (Kd.V_below (Kd.V_bound HR9i.out) hb) (rfork_f _ size depth c0 nw nl.f9 nr.f9 (by omega) (by omega) HDEP.out (by have := H65.out; omega) HOB.out HLN.out.1.2 HLN.out.2.2)).mono ?_
    rintro e w' ⟨v, he, hR, hB⟩
    exact ⟨v, he, Kd.R_mono hR (fun _ _ => trivial), hB⟩)
  have q1 : (kl : Int) < (mA : Int) := by omega
  have q2 : 0 ≤ (kl : Int) := by omega
  have q3 : (kr : Int) < (mA : Int) := by omega
  have q4 : 0 ≤ (kr : Int) := by omega
  clear hol hor hkl hkr hvl hklm hkrm hmc hmc2 b1 b2 b5 bl9 b1' b2' b5' br9 hml hmr hqb hcs o0 hdep
  go_enter Tryd.func40, Tryd.ntmps40
  go_wp2_with fail
  refine HTL.out.mono ?_
  rintro e w' ⟨rfl, rfl⟩
  go_wp2_with fail
  refine HTR.out.mono ?_
  rintro e w' ⟨rfl, rfl⟩
  go_wp2_with fail
  clear hd1 hd2 hd3 hd4
  refine start_ (n := 18) (S := fun w' => Below w.heap.size w w') (ds := []) #[false, false, false, false, false, false, false, false, false, false, false, false, false, false, false, false, false, false] (by kernel_rfl) rfl rfl (below_drew (Below.refl _ _)) (fun hHeld => ?_); refine with_tabW rfork_tab3 rfork_bits3 (fun HT_ HW_ => ?_)
  have HB := Aside0.mk (show Below w.heap.size w w.drew from below_drew (Below.refl _ _))
  generalize hgw : w.drew = w1 at HB hHeld ⊢
  clear hgw
  refine pure_ (i := 0) (N := some 41) (v := ?_) (a' := ?_) #[true, false, false, false, false, false, false, false, false, false, false, false, false, false, false, false, false, false] rfl rfl (any_of HT_.out (by kernel_rfl)) (fun _ _ _ h => h) (Or.inl ⟨by rfl, ?_⟩) ?_ ?_
  rotate_left
  · intro w'
    go_simp
    with_reducible rfl
  rotate_left
  · simp only [Act.put, List.setIfInBounds_toArray, List.set_cons_zero, List.set_cons_succ, i64_w, i32_w]
    rfl
  refine pure_ (i := 1) (N := some 42) (v := ?_) (a' := ?_) #[true, true, false, false, false, false, false, false, false, false, false, false, false, false, false, false, false, false] rfl rfl (any_of HT_.out (by kernel_rfl)) (fun _ _ _ h => h) (Or.inl ⟨by rfl, ?_⟩) ?_ ?_
  rotate_left
  · intro w'
    go_simp
    with_reducible rfl
  rotate_left
  · simp only [Act.put, List.setIfInBounds_toArray, List.set_cons_zero, List.set_cons_succ, i64_w, i32_w]
    rfl
  refine pure_ (i := 2) (N := some 43) (v := ?_) (a' := ?_) #[true, true, true, false, false, false, false, false, false, false, false, false, false, false, false, false, false, false] rfl rfl (any_of HT_.out (by kernel_rfl)) (fun _ _ _ h => h) (Or.inl ⟨by rfl, ?_⟩) ?_ ?_
  rotate_left
  · intro w'
    go_simp
    with_reducible rfl
  rotate_left
  · simp only [Act.put, List.setIfInBounds_toArray, List.set_cons_zero, List.set_cons_succ, i64_w, i32_w]
    rfl
  refine take_ (i := 3) (N := some 44) (v := ?_) (a' := ?_) #[true, true, true, true, false, false, false, false, false, false, false, false, false, false, false, false, false, false] rfl rfl (take_ofW HT_.out HW_.out (by kernel_rfl)) (fun _ _ _ h => h) (Or.inl ⟨by rfl, ?_⟩) hHeld ?_ ?_
  rotate_left
  · rintro w' s0
    have kk := (s0.cell (World.block_lt_of_cell? w _ HK2.out)).trans HK2.out
    go_simp
    with_reducible rfl
  rotate_left
  · simp only [Act.put, List.setIfInBounds_toArray, List.set_cons_zero, List.set_cons_succ, i64_w, i32_w]
    rfl
  refine pure_ (i := 4) (N := some 45) (v := ?_) (a' := ?_) #[true, true, true, true, true, false, false, false, false, false, false, false, false, false, false, false, false, false] rfl rfl (any_of HT_.out (by kernel_rfl)) (fun _ _ _ h => h) (Or.inl ⟨by rfl, ?_⟩) ?_ ?_
  rotate_left
  · intro w'
    go_simp
    with_reducible rfl
  rotate_left
  · simp only [Act.put, List.setIfInBounds_toArray, List.set_cons_zero, List.set_cons_succ, i64_w, i32_w]
    rfl
  refine pure_ (i := 5) (N := some 46) (v := ?_) (a' := ?_) #[true, true, true, true, true, true, false, false, false, false, false, false, false, false, false, false, false, false] rfl rfl (any_of HT_.out (by kernel_rfl)) (fun _ _ _ h => h) (Or.inl ⟨by rfl, ?_⟩) ?_ ?_
  rotate_left
  · intro w'
    go_simp
    with_reducible rfl
  rotate_left
  · simp only [Act.put, List.setIfInBounds_toArray, List.set_cons_zero, List.set_cons_succ, i64_w, i32_w]
    rfl
  refine take_ (i := 6) (N := some 47) (v := ?_) (a' := ?_) #[true, true, true, true, true, true, true, false, false, false, false, false, false, false, false, false, false, false] rfl rfl (take_ofW HT_.out HW_.out (by kernel_rfl)) (fun _ _ _ h => h) (Or.inl ⟨by rfl, ?_⟩) hHeld ?_ ?_
  rotate_left
  · rintro w' s0
    obtain ⟨m0, m1, m2, m3, m4, m5, m6, m7, m8, m9⟩ := HML.out
    replace m0 := (s0.cell (World.block_lt_of_cell? w _ m0)).trans m0
    replace m1 := (s0.cell (World.block_lt_of_cell? w _ m1)).trans m1
    replace m2 := (s0.cell (World.block_lt_of_cell? w _ m2)).trans m2
    replace m3 := (s0.cell (World.block_lt_of_cell? w _ m3)).trans m3
    replace m4 := (s0.cell (World.block_lt_of_cell? w _ m4)).trans m4
    replace m5 := (s0.cell (World.block_lt_of_cell? w _ m5)).trans m5
    replace m6 := (s0.cell (World.block_lt_of_cell? w _ m6)).trans m6
    replace m7 := (s0.cell (World.block_lt_of_cell? w _ m7)).trans m7
    replace m8 := (s0.cell (World.block_lt_of_cell? w _ m8)).trans m8
    replace m9 := (s0.cell (World.block_lt_of_cell? w _ m9)).trans m9
    go_simp
    with_reducible rfl
  rotate_left
  · simp only [Act.put, List.setIfInBounds_toArray, List.set_cons_zero, List.set_cons_succ, i64_w, i32_w]
    rfl
  refine pure_ (i := 7) (N := some 48) (v := ?_) (a' := ?_) #[true, true, true, true, true, true, true, true, false, false, false, false, false, false, false, false, false, false] rfl rfl (any_of HT_.out (by kernel_rfl)) (fun _ _ _ h => h) (Or.inl ⟨by rfl, ?_⟩) ?_ ?_
  rotate_left
  · intro w'
    go_simp
    with_reducible rfl
  rotate_left
  · simp only [Act.put, List.setIfInBounds_toArray, List.set_cons_zero, List.set_cons_succ, i64_w, i32_w]
    rfl
  refine pure_ (i := 8) (N := some 49) (v := ?_) (a' := ?_) #[true, true, true, true, true, true, true, true, true, false, false, false, false, false, false, false, false, false] rfl rfl (any_of HT_.out (by kernel_rfl)) (fun _ _ _ h => h) (Or.inl ⟨by rfl, ?_⟩) ?_ ?_
  rotate_left
  · intro w'
    go_simp
    with_reducible rfl
  rotate_left
  · simp only [Act.put, List.setIfInBounds_toArray, List.set_cons_zero, List.set_cons_succ, i64_w, i32_w]
    rfl
  refine pure_ (i := 9) (N := some 50) (v := ?_) (a' := ?_) #[true, true, true, true, true, true, true, true, true, true, false, false, false, false, false, false, false, false] rfl rfl (any_of HT_.out (by kernel_rfl)) (fun _ _ _ h => h) (Or.inl ⟨by rfl, ?_⟩) ?_ ?_
  rotate_left
  · intro w'
    go_simp
    with_reducible rfl
  rotate_left
  · simp only [Act.put, List.setIfInBounds_toArray, List.set_cons_zero, List.set_cons_succ, i64_w, i32_w]
    rfl
  refine take_ (i := 10) (N := some 51) (v := ?_) (a' := ?_) #[true, true, true, true, true, true, true, true, true, true, true, false, false, false, false, false, false, false] rfl rfl (take_ofW HT_.out HW_.out (by kernel_rfl)) (fun _ _ _ h => h) (Or.inl ⟨by rfl, ?_⟩) hHeld ?_ ?_
  rotate_left
  · rintro w' s0
    have kk := (s0.cell (World.block_lt_of_cell? w _ HK2.out)).trans HK2.out
    go_simp
    with_reducible rfl
  rotate_left
  · simp only [Act.put, List.setIfInBounds_toArray, List.set_cons_zero, List.set_cons_succ, i64_w, i32_w]
    rfl
  refine pure_ (i := 11) (N := some 52) (v := ?_) (a' := ?_) #[true, true, true, true, true, true, true, true, true, true, true, true, false, false, false, false, false, false] rfl rfl (any_of HT_.out (by kernel_rfl)) (fun _ _ _ h => h) (Or.inl ⟨by rfl, ?_⟩) ?_ ?_
  rotate_left
  · intro w'
    go_simp
    with_reducible rfl
  rotate_left
  · simp only [Act.put, List.setIfInBounds_toArray, List.set_cons_zero, List.set_cons_succ, i64_w, i32_w]
    rfl
  refine pure_ (i := 12) (N := some 53) (v := ?_) (a' := ?_) #[true, true, true, true, true, true, true, true, true, true, true, true, true, false, false, false, false, false] rfl rfl (any_of HT_.out (by kernel_rfl)) (fun _ _ _ h => h) (Or.inl ⟨by rfl, ?_⟩) ?_ ?_
  rotate_left
  · intro w'
    go_simp
    with_reducible rfl
  rotate_left
  · simp only [Act.put, List.setIfInBounds_toArray, List.set_cons_zero, List.set_cons_succ, i64_w, i32_w]
    rfl
  refine take_ (i := 13) (N := some 54) (v := ?_) (a' := ?_) #[true, true, true, true, true, true, true, true, true, true, true, true, true, true, false, false, false, false] rfl rfl (take_ofW HT_.out HW_.out (by kernel_rfl)) (fun _ _ _ h => h) (Or.inl ⟨by rfl, ?_⟩) hHeld ?_ ?_
  rotate_left
  · rintro w' s0
    obtain ⟨m0, m1, m2, m3, m4, m5, m6, m7, m8, m9⟩ := HMR.out
    replace m0 := (s0.cell (World.block_lt_of_cell? w _ m0)).trans m0
    replace m1 := (s0.cell (World.block_lt_of_cell? w _ m1)).trans m1
    replace m2 := (s0.cell (World.block_lt_of_cell? w _ m2)).trans m2
    replace m3 := (s0.cell (World.block_lt_of_cell? w _ m3)).trans m3
    replace m4 := (s0.cell (World.block_lt_of_cell? w _ m4)).trans m4
    replace m5 := (s0.cell (World.block_lt_of_cell? w _ m5)).trans m5
    replace m6 := (s0.cell (World.block_lt_of_cell? w _ m6)).trans m6
    replace m7 := (s0.cell (World.block_lt_of_cell? w _ m7)).trans m7
    replace m8 := (s0.cell (World.block_lt_of_cell? w _ m8)).trans m8
    replace m9 := (s0.cell (World.block_lt_of_cell? w _ m9)).trans m9
    go_simp
    with_reducible rfl
  rotate_left
  · simp only [Act.put, List.setIfInBounds_toArray, List.set_cons_zero, List.set_cons_succ, i64_w, i32_w]
    rfl
  refine join_ (σ := Nat × Nat) 2 #[true, true, true, true, true, true, true, true, true, true, true, true, true, true, true, true, false, false] (fun s_ => [(12, .pointer (some ⟨s_.1, 0, none⟩)), (13, .pointer (some ⟨s_.2, 0, none⟩))]) (fun s_ w' => NdB w' s_.1 zeroR ∧ NdB w' s_.2 zeroR ∧ s_.1 ≠ s_.2 ∧ w.heap.size ≤ s_.1 ∧ w.heap.size ≤ s_.2 ∧ Below w.heap.size w w') ?_ ?_
  rotate_left
  · intro hCont
    refine two_ (i := 14) (j := 15) (Ni := some 12) (Nj := some 13) #[true, true, true, true, true, true, true, true, true, true, true, true, true, true, true, false, false, false] #[true, true, true, true, true, true, true, true, true, true, true, true, true, true, false, true, false, false] rfl rfl rfl rfl (two_of HT_.out (by kernel_rfl)) (by decide) (by decide) (fun K hK => ?_) (fun K hK => ?_)
    · skip
      refine box_step ?hg (N := 12) ?hd (cs := #[.bool false, .slice none 0 0, .slice none 0 0, .int .i64 0, .int .i64 0, .slice none 0 0, .int .i64 0, .int .i64 0, .int .i64 0, .slice none 0 0]) (t := 39) ?hr ?_; (case hd => rfl); (case hg => rfl); (case hr => first | (go_simp; done) | (go_simp; rfl))
      intro gl hg_ wa hbox hb
      have HA := Aside0.mk (show NdB wa gl zeroR from hbox)
      have HGa := Aside0.mk (show w.heap.size ≤ gl ∧ gl < wa.heap.size from ⟨by have := HB.out.size; omega, blk_lt hbox⟩)
      have HBa := Aside0.mk (below_step HB.out hb)
      clear hb hbox hg_
      refine hK.out _ _ HBa.out (fun hHeld => ?_)
      clear hK K
      refine norm_ (a' := ?_) ?_ ?_
      rotate_left
      · show Act.put _ (some 12) _ = _
        simp only [Act.put, List.setIfInBounds_toArray, List.set_cons_zero, List.set_cons_succ, i64_w, i32_w]
        rfl
      refine one_ (i := 15) (N := some 13) #[true, true, true, true, true, true, true, true, true, true, true, true, true, true, true, true, false, false] rfl rfl (one_of HT_.out (by kernel_rfl)) (by decide) (fun K hK => ?_)
      refine box_step ?hg (N := 13) ?hd (cs := #[.bool false, .slice none 0 0, .slice none 0 0, .int .i64 0, .int .i64 0, .slice none 0 0, .int .i64 0, .int .i64 0, .int .i64 0, .slice none 0 0]) (t := 39) ?hr ?_; (case hd => rfl); (case hg => rfl); (case hr => first | (go_simp; done) | (go_simp; rfl))
      intro gr hg_ wb hbox hb
      have HC := Aside0.mk (show NdB wb gr zeroR from hbox)
      have HA2 := Aside0.mk (NdB.below HA.out hb)
      have HGb := Aside0.mk (show wa.heap.size ≤ gr from by omega)
      have HBb := Aside0.mk (below_step HBa.out hb)
      clear hb hbox hg_
      refine hK.out _ _ HBb.out (fun hHeld => ?_)
      clear hK K
      refine norm_ (a' := ?_) ?_ ?_
      rotate_left
      · show Act.put _ (some 13) _ = _
        simp only [Act.put, List.setIfInBounds_toArray, List.set_cons_zero, List.set_cons_succ, i64_w, i32_w]
        rfl
      have h1 := HGa.out
      have h2 := HGb.out
      have h3 := HBa.out.size
      exact norm_ (by simp only [putAll, Act.put, List.setIfInBounds_toArray, List.set_cons_zero, List.set_cons_succ]) (hCont (gl, gr) _ ⟨HA2.out, HC.out, by omega, by omega, by omega, HBb.out⟩)
    · skip
      refine box_step ?hg (N := 13) ?hd (cs := #[.bool false, .slice none 0 0, .slice none 0 0, .int .i64 0, .int .i64 0, .slice none 0 0, .int .i64 0, .int .i64 0, .int .i64 0, .slice none 0 0]) (t := 39) ?hr ?_; (case hd => rfl); (case hg => rfl); (case hr => first | (go_simp; done) | (go_simp; rfl))
      intro gr hg_ wa hbox hb
      have HA := Aside0.mk (show NdB wa gr zeroR from hbox)
      have HGa := Aside0.mk (show w.heap.size ≤ gr ∧ gr < wa.heap.size from ⟨by have := HB.out.size; omega, blk_lt hbox⟩)
      have HBa := Aside0.mk (below_step HB.out hb)
      clear hb hbox hg_
      refine hK.out _ _ HBa.out (fun hHeld => ?_)
      clear hK K
      refine norm_ (a' := ?_) ?_ ?_
      rotate_left
      · show Act.put _ (some 13) _ = _
        simp only [Act.put, List.setIfInBounds_toArray, List.set_cons_zero, List.set_cons_succ, i64_w, i32_w]
        rfl
      refine one_ (i := 14) (N := some 12) #[true, true, true, true, true, true, true, true, true, true, true, true, true, true, true, true, false, false] rfl rfl (one_of HT_.out (by kernel_rfl)) (by decide) (fun K hK => ?_)
      refine box_step ?hg (N := 12) ?hd (cs := #[.bool false, .slice none 0 0, .slice none 0 0, .int .i64 0, .int .i64 0, .slice none 0 0, .int .i64 0, .int .i64 0, .int .i64 0, .slice none 0 0]) (t := 39) ?hr ?_; (case hd => rfl); (case hg => rfl); (case hr => first | (go_simp; done) | (go_simp; rfl))
      intro gl hg_ wb hbox hb
      have HC := Aside0.mk (show NdB wb gl zeroR from hbox)
      have HA2 := Aside0.mk (NdB.below HA.out hb)
      have HGb := Aside0.mk (show wa.heap.size ≤ gl from by omega)
      have HBb := Aside0.mk (below_step HBa.out hb)
      clear hb hbox hg_
      refine hK.out _ _ HBb.out (fun hHeld => ?_)
      clear hK K
      refine norm_ (a' := ?_) ?_ ?_
      rotate_left
      · show Act.put _ (some 12) _ = _
        simp only [Act.put, List.setIfInBounds_toArray, List.set_cons_zero, List.set_cons_succ, i64_w, i32_w]
        rfl
      have h1 := HGa.out
      have h2 := HGb.out
      have h3 := HBa.out.size
      exact norm_ (by simp only [putAll, Act.put, List.setIfInBounds_toArray, List.set_cons_zero, List.set_cons_succ]) (hCont (gl, gr) _ ⟨HC.out, HA2.out, by omega, by omega, by omega, HBb.out⟩)
  rintro ⟨gl, gr⟩ wq ⟨ha, hc, hne, h1, h2, hbq⟩
  have hHeld := hbq
  have HA := Aside0.mk (show NdB wq gl zeroR from ha)
  have HC := Aside0.mk (show NdB wq gr zeroR from hc)
  have HNE := Aside0.mk (show gl ≠ gr ∧ w.heap.size ≤ gl ∧ w.heap.size ≤ gr from ⟨hne, h1, h2⟩)
  have HBq := Aside0.mk hbq
  clear ha hc hne h1 h2 hbq HB
  refine norm_ (a' := ?_) ?_ ?_
  rotate_left
  · simp only [putAll, Act.put, List.setIfInBounds_toArray, List.set_cons_zero, List.set_cons_succ]
    rfl
  refine one_ (i := 16) (N := none) #[true, true, true, true, true, true, true, true, true, true, true, true, true, true, true, true, true, false] rfl rfl (one_of HT_.out (by kernel_rfl)) (by decide) (fun K hK => ?_)
  obtain ⟨z0, z1, z2, z3, z4, z5, z6, z7, z8, z9⟩ := NdB.cells HA.out
  obtain ⟨f0, f1, f2, f3, f4, f5, f6, f7, f8, f9⟩ := HA.out.frozen
  obtain ⟨wr, hwx⟩ : ∃ wx, wx = putN wq gl (.bool nl.f0) (.slice LA1 nl.f1.length lc1) (.slice LA2 nl.f2.length lc2) (.int .i64 nl.f3) (.int .i64 nl.f4) (.slice LA5 nl.f5.length lc5) (.int .i64 nl.f6) (.int .i64 nl.f7) (.int .i64 nl.f8) (.slice LA9 nl.f9.length lc9) := ⟨_, rfl⟩
  refine skip_ (w1 := wr) (by rfl) rfl ?_ ?_
  · rw [hwx]
    go_simp <;> first | rfl | done
  clear z0 z1 z2 z3 z4 z5 z6 z7 z8 z9 f0 f1 f2 f3 f4 f5 f6 f7 f8 f9
  have HA3 := Aside0.mk (show NdB wr gl [.bool nl.f0, .slice LA1 nl.f1.length lc1, .slice LA2 nl.f2.length lc2, .int .i64 nl.f3, .int .i64 nl.f4, .slice LA5 nl.f5.length lc5, .int .i64 nl.f6, .int .i64 nl.f7, .int .i64 nl.f8, .slice LA9 nl.f9.length lc9] from by rw [hwx]; exact putN_nd HA.out _ _ _ _ _ _ _ _ _ _)
  have HBr := Aside0.mk (show Below w.heap.size w wr from by rw [hwx]; exact putN_below HBq.out HNE.out.2.1 _ _ _ _ _ _ _ _ _ _)
  have HC3 := Aside0.mk (show NdB wr gr zeroR from by rw [hwx]; exact (putN_far HNE.out.1.symm _ _ _ _ _ _ _ _ _ _).trans HC.out)
  clear hwx
  refine hK.out _ _ HBr.out (fun hHeld => ?_)
  clear hK K
  refine one_ (i := 17) (N := none) #[true, true, true, true, true, true, true, true, true, true, true, true, true, true, true, true, true, true] rfl rfl (one_of HT_.out (by kernel_rfl)) (by decide) (fun K hK => ?_)
  obtain ⟨z0, z1, z2, z3, z4, z5, z6, z7, z8, z9⟩ := NdB.cells HC3.out
  obtain ⟨f0, f1, f2, f3, f4, f5, f6, f7, f8, f9⟩ := HC3.out.frozen
  obtain ⟨w3, hwx⟩ : ∃ wx, wx = putN wr gr (.bool nr.f0) (.slice RA1 nr.f1.length rc1) (.slice RA2 nr.f2.length rc2) (.int .i64 nr.f3) (.int .i64 nr.f4) (.slice RA5 nr.f5.length rc5) (.int .i64 nr.f6) (.int .i64 nr.f7) (.int .i64 nr.f8) (.slice RA9 nr.f9.length rc9) := ⟨_, rfl⟩
  refine skip_ (w1 := w3) (by rfl) rfl ?_ ?_
  · rw [hwx]
    go_simp <;> first | rfl | done
  clear z0 z1 z2 z3 z4 z5 z6 z7 z8 z9 f0 f1 f2 f3 f4 f5 f6 f7 f8 f9
  have HC4 := Aside0.mk (show NdB w3 gr [.bool nr.f0, .slice RA1 nr.f1.length rc1, .slice RA2 nr.f2.length rc2, .int .i64 nr.f3, .int .i64 nr.f4, .slice RA5 nr.f5.length rc5, .int .i64 nr.f6, .int .i64 nr.f7, .int .i64 nr.f8, .slice RA9 nr.f9.length rc9] from by rw [hwx]; exact putN_nd HC3.out _ _ _ _ _ _ _ _ _ _)
  have HB3 := Aside0.mk (show Below w.heap.size w w3 from by rw [hwx]; exact putN_below HBr.out HNE.out.2.2 _ _ _ _ _ _ _ _ _ _)
  have HA4 := Aside0.mk (show NdB w3 gl [.bool nl.f0, .slice LA1 nl.f1.length lc1, .slice LA2 nl.f2.length lc2, .int .i64 nl.f3, .int .i64 nl.f4, .slice LA5 nl.f5.length lc5, .int .i64 nl.f6, .int .i64 nl.f7, .int .i64 nl.f8, .slice LA9 nl.f9.length lc9] from by rw [hwx]; exact (putN_far HNE.out.1 _ _ _ _ _ _ _ _ _ _).trans HA3.out)
  clear hwx
  refine hK.out _ _ HB3.out (fun hHeld => ?_)
  clear hK K
  refine done_ (done_of HT_.out (by kernel_rfl)) ?_
  clear HA HC HBq HA3 HC3 HBr hHeld HT_ HW_
  have HFIRST := Aside0.mk (show ∀ W : World, Below w3.heap.size w3 W → _ from fun W hb => HFIRST0.out W (HB3.out.trans (hb.mono HB3.out.size)))
  go_wp2_with fail
  refine start_ (n := 14) (S := fun w' => Below w3.heap.size w3 w') (ds := []) #[false, false, false, false, false, false, false, false, false, false, false, false, false, false] (by kernel_rfl) rfl rfl (below_drew (Below.refl _ _)) (fun hHeld => ?_); refine with_tabW rfork_tab4 rfork_bits4 (fun HT_ HW_ => ?_)
  have HB := Aside0.mk (show Below w3.heap.size w3 w3.drew from below_drew (Below.refl _ _))
  generalize hgw : w3.drew = w4 at HB hHeld ⊢
  clear hgw
  refine pure_ (i := 0) (N := some 55) (v := ?_) (a' := ?_) #[true, false, false, false, false, false, false, false, false, false, false, false, false, false] rfl rfl (any_of HT_.out (by kernel_rfl)) (fun _ _ _ h => h) (Or.inl ⟨by rfl, ?_⟩) ?_ ?_
  rotate_left
  · intro w'
    go_simp
    with_reducible rfl
  rotate_left
  · simp only [Act.put, List.setIfInBounds_toArray, List.set_cons_zero, List.set_cons_succ, i64_w, i32_w]
    rfl
  refine pure_ (i := 1) (N := some 56) (v := ?_) (a' := ?_) #[true, true, false, false, false, false, false, false, false, false, false, false, false, false] rfl rfl (any_of HT_.out (by kernel_rfl)) (fun _ _ _ h => h) (Or.inl ⟨by rfl, ?_⟩) ?_ ?_
  rotate_left
  · intro w'
    go_simp
    with_reducible rfl
  rotate_left
  · simp only [Act.put, List.setIfInBounds_toArray, List.set_cons_zero, List.set_cons_succ, i64_w, i32_w]
    rfl
  refine pure_ (i := 2) (N := some 57) (v := ?_) (a' := ?_) #[true, true, true, false, false, false, false, false, false, false, false, false, false, false] rfl rfl (any_of HT_.out (by kernel_rfl)) (fun _ _ _ h => h) (Or.inl ⟨by rfl, ?_⟩) ?_ ?_
  rotate_left
  · intro w'
    go_simp
    with_reducible rfl
  rotate_left
  · simp only [Act.put, List.setIfInBounds_toArray, List.set_cons_zero, List.set_cons_succ, i64_w, i32_w]
    rfl
  refine pure_ (i := 4) (N := some 59) (v := ?_) (a' := ?_) #[true, true, true, false, true, false, false, false, false, false, false, false, false, false] rfl rfl (any_of HT_.out (by kernel_rfl)) (fun _ _ _ h => h) (Or.inl ⟨by rfl, ?_⟩) ?_ ?_
  rotate_left
  · intro w'
    go_simp
    with_reducible rfl
  rotate_left
  · simp only [Act.put, List.setIfInBounds_toArray, List.set_cons_zero, List.set_cons_succ, i64_w, i32_w]
    rfl
  refine take_ (i := 5) (N := some 60) (v := ?_) (a' := ?_) #[true, true, true, false, true, true, false, false, false, false, false, false, false, false] rfl rfl (take_ofW HT_.out HW_.out (by kernel_rfl)) (fun _ _ _ h => h) (Or.inl ⟨by rfl, ?_⟩) hHeld ?_ ?_
  rotate_left
  · rintro w' s0
    have m6 := blk_cell (NdB.below HA4.out s0) 6
    go_simp
    with_reducible rfl
  rotate_left
  · simp only [Act.put, List.setIfInBounds_toArray, List.set_cons_zero, List.set_cons_succ, i64_w, i32_w]
    rfl
  refine pure_ (i := 6) (N := some 61) (v := ?_) (a' := ?_) #[true, true, true, false, true, true, true, false, false, false, false, false, false, false] rfl rfl (any_of HT_.out (by kernel_rfl)) (fun _ _ _ h => h) (Or.inl ⟨by rfl, ?_⟩) ?_ ?_
  rotate_left
  · intro w'
    go_simp
    with_reducible rfl
  rotate_left
  · simp only [Act.put, List.setIfInBounds_toArray, List.set_cons_zero, List.set_cons_succ, i64_w, i32_w]
    rfl
  refine take_ (i := 7) (N := some 62) (v := ?_) (a' := ?_) #[true, true, true, false, true, true, true, true, false, false, false, false, false, false] rfl rfl (take_ofW HT_.out HW_.out (by kernel_rfl)) (fun _ _ _ h => h) (Or.inl ⟨by rfl, ?_⟩) hHeld ?_ ?_
  rotate_left
  · rintro w' s0
    have m6 := blk_cell (NdB.below HC4.out s0) 6
    go_simp
    with_reducible rfl
  rotate_left
  · simp only [Act.put, List.setIfInBounds_toArray, List.set_cons_zero, List.set_cons_succ, i64_w, i32_w]
    rfl
  refine pure_ (i := 8) (N := some 63) (v := ?_) (a' := ?_) #[true, true, true, false, true, true, true, true, true, false, false, false, false, false] rfl rfl (any_of HT_.out (by kernel_rfl)) (fun _ _ _ h => h) (Or.inl ⟨by rfl, ?_⟩) ?_ ?_
  rotate_left
  · intro w'
    go_simp
    with_reducible rfl
  rotate_left
  · simp only [Act.put, List.setIfInBounds_toArray, List.set_cons_zero, List.set_cons_succ, i64_w, i32_w]
    rfl
  refine pure_ (i := 9) (N := some 64) (v := ?_) (a' := ?_) #[true, true, true, false, true, true, true, true, true, true, false, false, false, false] rfl rfl (any_of HT_.out (by kernel_rfl)) (fun _ _ _ h => h) (Or.inl ⟨by rfl, ?_⟩) ?_ ?_
  rotate_left
  · intro w'
    go_simp
    with_reducible rfl
  rotate_left
  · simp only [Act.put, List.setIfInBounds_toArray, List.set_cons_zero, List.set_cons_succ, i64_w, i32_w]
    rfl
  refine pure_ (i := 10) (N := some 65) (v := ?_) (a' := ?_) #[true, true, true, false, true, true, true, true, true, true, true, false, false, false] rfl rfl (any_of HT_.out (by kernel_rfl)) (fun _ _ _ h => h) (Or.inl ⟨by rfl, ?_⟩) ?_ ?_
  rotate_left
  · intro w'
    go_simp
    with_reducible rfl
  rotate_left
  · simp only [Act.put, List.setIfInBounds_toArray, List.set_cons_zero, List.set_cons_succ, i64_w, i32_w]
    rfl
  refine join_ (σ := Option Addr × Nat × Nat) 1 #[true, true, true, true, true, true, true, true, true, true, true, true, true, false] (fun s_ => [(58, .slice s_.1 (firstB c0 depth).length s_.2.1), (14, .pointer (some ⟨s_.2.2, 0, none⟩)), (66, .agg #[.bool false, .slice none 0 0, .slice none 0 0, .int .i64 0, .int .i64 depth, .slice s_.1 (firstB c0 depth).length s_.2.1, .int .i64 (if nl.f6 < nr.f6 then nr.f6 else nl.f6), .int .i64 (kl : Int), .int .i64 (kr : Int), .slice none 0 0])]) (fun s_ w' => Kd.R (Kd.int .u8) 5 w' w3.heap.size (fun k => k ≠ s_.2.2) (.slice s_.1 (firstB c0 depth).length s_.2.1) (firstB c0 depth) ∧ NdB w' s_.2.2 zeroR ∧ Below w3.heap.size w3 w' ∧ w3.heap.size ≤ s_.2.2) ?_ ?_
  rotate_left
  · intro hCont
    refine two_ (i := 3) (j := 12) (Ni := some 58) (Nj := some 14) #[true, true, true, true, true, true, true, true, true, true, true, false, false, false] #[true, true, true, false, true, true, true, true, true, true, true, false, true, false] rfl rfl rfl rfl (two_of HT_.out (by kernel_rfl)) (by decide) (by decide) (fun K hK => ?_) (fun K hK => ?_)
    · skip
      refine goes_ Tryd.func79 (by kernel_rfl) rfl #[.slice A c0.length cc, .int .i64 depth] (by rfl) rfl rfl (by (try simp only [List.map_toArray, List.map_cons, List.map_nil]); first | done | rfl) ?_
      with_reducible refine (HFIRST.out _ HB.out).mono ?_
      rintro e w23 ⟨v5, rfl, hR5, hb⟩
      obtain ⟨B5, d5, rfl⟩ := Kd.R_slice hR5
      refine ⟨_, rfl, ?_⟩
      have hbs := HB.out.size
      have HR5 := Aside0.mk (Kd.R_lower hR5 hbs)
      replace HB := Aside0.mk (below_step HB.out hb)
      refine hK.out _ _ HB.out (fun hHeld => ?_)
      clear hK K
      refine norm_ (a' := ?_) ?_ ?_
      rotate_left
      · show Act.put _ (some 58) _ = _
        simp only [Act.put, List.setIfInBounds_toArray, List.set_cons_zero, List.set_cons_succ, i64_w, i32_w]
        rfl
      refine pure_ (i := 11) (N := some 66) (v := ?_) (a' := ?_) #[true, true, true, true, true, true, true, true, true, true, true, true, false, false] rfl rfl (any_of HT_.out (by kernel_rfl)) (fun _ _ _ h => h) (Or.inl ⟨by rfl, ?_⟩) ?_ ?_
      rotate_left
      · intro w'
        go_simp
        with_reducible rfl
      rotate_left
      · simp only [Act.put, List.setIfInBounds_toArray, List.set_cons_zero, List.set_cons_succ, i64_w, i32_w]
        rfl
      refine one_ (i := 12) (N := some 14) #[true, true, true, true, true, true, true, true, true, true, true, true, true, false] rfl rfl (one_of HT_.out (by kernel_rfl)) (by decide) (fun K hK => ?_)
      refine box_step ?hg (N := 14) ?hd (cs := #[.bool false, .slice none 0 0, .slice none 0 0, .int .i64 0, .int .i64 0, .slice none 0 0, .int .i64 0, .int .i64 0, .int .i64 0, .slice none 0 0]) (t := 39) ?hr ?_; (case hd => rfl); (case hg => rfl); (case hr => first | (go_simp; done) | (go_simp; rfl))
      intro g hg w24 hbox hb
      have HGE := Aside0.mk (show w3.heap.size ≤ g from by have := HB.out.size; omega)
      have HG := Aside0.mk (show NdB w24 g zeroR from hbox)
      replace HR5 := Aside0.mk (Kd.R_mono (Kd.R_below (Kd.R_bound HR5.out) hb) (ok' := fun k => k ≠ g) (fun k hk => by have := hk.2.2.1; omega))
      replace HB := Aside0.mk (below_step HB.out hb)
      refine hK.out _ _ HB.out (fun hHeld => ?_)
      clear hK K
      refine norm_ (a' := ?_) ?_ ?_
      rotate_left
      · show Act.put _ (some 14) _ = _
        simp only [Act.put, List.setIfInBounds_toArray, List.set_cons_zero, List.set_cons_succ, i64_w, i32_w]
        rfl
      exact norm_ (by simp only [putAll, Act.put, List.setIfInBounds_toArray, List.set_cons_zero, List.set_cons_succ]) (hCont (B5, d5, g) _ ⟨HR5.out, HG.out, HB.out, HGE.out⟩)
    · skip
      refine box_step ?hg (N := 14) ?hd (cs := #[.bool false, .slice none 0 0, .slice none 0 0, .int .i64 0, .int .i64 0, .slice none 0 0, .int .i64 0, .int .i64 0, .int .i64 0, .slice none 0 0]) (t := 39) ?hr ?_; (case hd => rfl); (case hg => rfl); (case hr => first | (go_simp; done) | (go_simp; rfl))
      intro g hg w24 hbox hb
      have HGE := Aside0.mk (show w3.heap.size ≤ g ∧ g < w24.heap.size from ⟨by have := HB.out.size; omega, blk_lt hbox⟩)
      have HG := Aside0.mk (show NdB w24 g zeroR from hbox)
      replace HB := Aside0.mk (below_step HB.out hb)
      refine hK.out _ _ HB.out (fun hHeld => ?_)
      clear hK K
      refine norm_ (a' := ?_) ?_ ?_
      rotate_left
      · show Act.put _ (some 14) _ = _
        simp only [Act.put, List.setIfInBounds_toArray, List.set_cons_zero, List.set_cons_succ, i64_w, i32_w]
        rfl
      refine one_ (i := 3) (N := some 58) #[true, true, true, true, true, true, true, true, true, true, true, false, true, false] rfl rfl (one_of HT_.out (by kernel_rfl)) (by decide) (fun K hK => ?_)
      refine goes_ Tryd.func79 (by kernel_rfl) rfl #[.slice A c0.length cc, .int .i64 depth] (by rfl) rfl rfl (by (try simp only [List.map_toArray, List.map_cons, List.map_nil]); first | done | rfl) ?_
      with_reducible refine (HFIRST.out _ HB.out).mono ?_
      rintro e w23 ⟨v5, rfl, hR5, hb⟩
      obtain ⟨B5, d5, rfl⟩ := Kd.R_slice hR5
      refine ⟨_, rfl, ?_⟩
      have hbs := HB.out.size
      have HR5 := Aside0.mk (Kd.R_lower (Kd.R_mono (Kd.R_bound hR5) (ok' := fun k => k ≠ g) (fun k hk => by have := hk.2.1; have := HGE.out.2; omega)) hbs)
      replace HG := Aside0.mk (HG.out.below hb)
      replace HGE := Aside0.mk HGE.out.1
      replace HB := Aside0.mk (below_step HB.out hb)
      refine hK.out _ _ HB.out (fun hHeld => ?_)
      clear hK K
      refine norm_ (a' := ?_) ?_ ?_
      rotate_left
      · show Act.put _ (some 58) _ = _
        simp only [Act.put, List.setIfInBounds_toArray, List.set_cons_zero, List.set_cons_succ, i64_w, i32_w]
        rfl
      refine pure_ (i := 11) (N := some 66) (v := ?_) (a' := ?_) #[true, true, true, true, true, true, true, true, true, true, true, true, true, false] rfl rfl (any_of HT_.out (by kernel_rfl)) (fun _ _ _ h => h) (Or.inl ⟨by rfl, ?_⟩) ?_ ?_
      rotate_left
      · intro w'
        go_simp
        with_reducible rfl
      rotate_left
      · simp only [Act.put, List.setIfInBounds_toArray, List.set_cons_zero, List.set_cons_succ, i64_w, i32_w]
        rfl
      exact norm_ (by simp only [putAll, Act.put, List.setIfInBounds_toArray, List.set_cons_zero, List.set_cons_succ]) (hCont (B5, d5, g) _ ⟨HR5.out, HG.out, HB.out, HGE.out⟩)
  rintro ⟨B5, d5, g⟩ wq ⟨hR5, hg, hb, hge⟩
  have hHeld := hb
  refine norm_ (a' := ?_) ?_ ?_
  rotate_left
  · simp only [putAll, Act.put, List.setIfInBounds_toArray, List.set_cons_zero, List.set_cons_succ]
    rfl
  refine one_ (i := 13) (N := none) #[true, true, true, true, true, true, true, true, true, true, true, true, true, true] rfl rfl (one_of HT_.out (by kernel_rfl)) (by decide) (fun K hK => ?_)
  obtain ⟨nw, hnw⟩ : ∃ nw, nw = (if nl.f6 < nr.f6 then nr.f6 else nl.f6) := ⟨_, rfl⟩
  have HNW := Aside0.mk hnw
  obtain ⟨w5, hw5⟩ : ∃ w5, w5 = putN wq g (.bool false) (.slice none 0 0) (.slice none 0 0) (.int .i64 0) (.int .i64 depth) (.slice B5 (firstB c0 depth).length d5) (.int .i64 nw) (.int .i64 (kl : Int)) (.int .i64 (kr : Int)) (.slice none 0 0) := ⟨_, rfl⟩
  have HG5 := Aside0.mk (show NdB w5 g [.bool false, .slice none 0 0, .slice none 0 0, .int .i64 0, .int .i64 depth, .slice B5 (firstB c0 depth).length d5, .int .i64 nw, .int .i64 (kl : Int), .int .i64 (kr : Int), .slice none 0 0] from by rw [hw5]; exact putN_nd hg _ _ _ _ _ _ _ _ _ _)
  have HB5 := Aside0.mk (show Below w3.heap.size w3 w5 from by rw [hw5]; exact putN_below hb hge _ _ _ _ _ _ _ _ _ _)
  have HR5 := Aside0.mk (show Kd.R (Kd.int .u8) 5 w5 w3.heap.size (fun k => k ≠ g) (.slice B5 (firstB c0 depth).length d5) (firstB c0 depth) from by rw [hw5]; exact Kd.R_step hR5 (fun k hk _ => putN_far hk _ _ _ _ _ _ _ _ _ _))
  have HGE := Aside0.mk hge
  obtain ⟨z0, z1, z2, z3, z4, z5, z6, z7, z8, z9⟩ := NdB.cells hg
  obtain ⟨f0, f1, f2, f3, f4, f5, f6, f7, f8, f9⟩ := NdB.frozen hg
  clear hR5
  refine skip_ (w1 := w5) (by rfl) rfl ?_ ?_
  · rw [hw5, hnw]
    go_simp <;> first | rfl | done
  clear z0 z1 z2 z3 z4 z5 z6 z7 z8 z9 f0 f1 f2 f3 f4 f5 f6 f7 f8 f9 hw5 hg hb hge hHeld
  refine hK.out _ _ HB5.out (fun hHeld => ?_)
  clear hK K hHeld
  refine done_ (done_of HT_.out (by kernel_rfl)) ?_
  clear HT_ HW_ HB
  have HB05 := Aside0.mk (show Below w.heap.size w w5 from HB3.out.trans (HB5.out.mono HB3.out.size))
  have HA5 := Aside0.mk (NdB.below HA4.out HB5.out)
  have HC5 := Aside0.mk (NdB.below HC4.out HB5.out)
  have HK05 := Aside0.mk (show w5.cell? ⟨q, 0, none⟩ = some (.int .i64 size) from (HB05.out.cell (World.block_lt_of_cell? w _ HK0.out)).trans HK0.out)
  clear HFIRST HFIRST0 HA4 HC4 HTL HTR HML HMR HK2
  try rw [← HNW.out]
  clear hnw
  go_wp2_with fail
  refine start_ (n := 15) (S := fun w' => Below w5.heap.size w5 w') (ds := [14]) #[false, false, false, false, false, false, false, false, false, false, false, false, false, false, false] (by kernel_rfl) rfl rfl (below_drew (Below.refl _ _)) (fun hHeld => ?_); refine with_tabW rfork_tab5 rfork_bits5 (fun HT_ HW_ => ?_)
  have HB := Aside0.mk (show Below w5.heap.size w5 w5.drew from below_drew (Below.refl _ _))
  generalize hgw : w5.drew = w6 at HB hHeld ⊢
  clear hgw
  refine pure_ (i := 0) (N := some 67) (v := ?_) (a' := ?_) #[true, false, false, false, false, false, false, false, false, false, false, false, false, false, false] rfl rfl (any_of HT_.out (by kernel_rfl)) (fun _ _ _ h => h) (Or.inl ⟨by rfl, ?_⟩) ?_ ?_
  rotate_left
  · intro w'
    go_simp
    with_reducible rfl
  rotate_left
  · simp only [Act.put, List.setIfInBounds_toArray, List.set_cons_zero, List.set_cons_succ, i64_w, i32_w]
    rfl
  refine pure_ (i := 1) (N := some 68) (v := ?_) (a' := ?_) #[true, true, false, false, false, false, false, false, false, false, false, false, false, false, false] rfl rfl (any_of HT_.out (by kernel_rfl)) (fun _ _ _ h => h) (Or.inl ⟨by rfl, ?_⟩) ?_ ?_
  rotate_left
  · intro w'
    go_simp
    with_reducible rfl
  rotate_left
  · simp only [Act.put, List.setIfInBounds_toArray, List.set_cons_zero, List.set_cons_succ, i64_w, i32_w]
    rfl
  refine pure_ (i := 2) (N := some 69) (v := ?_) (a' := ?_) #[true, true, true, false, false, false, false, false, false, false, false, false, false, false, false] rfl rfl (any_of HT_.out (by kernel_rfl)) (fun _ _ _ h => h) (Or.inl ⟨by rfl, ?_⟩) ?_ ?_
  rotate_left
  · intro w'
    go_simp
    with_reducible rfl
  rotate_left
  · simp only [Act.put, List.setIfInBounds_toArray, List.set_cons_zero, List.set_cons_succ, i64_w, i32_w]
    rfl
  refine take_ (i := 3) (N := some 70) (v := ?_) (a' := ?_) #[true, true, true, true, false, false, false, false, false, false, false, false, false, false, false] rfl rfl (take_ofW HT_.out HW_.out (by kernel_rfl)) (fun _ _ _ h => h) (Or.inl ⟨by rfl, ?_⟩) hHeld ?_ ?_
  rotate_left
  · rintro w' s0
    have kk := (s0.cell (World.block_lt_of_cell? w5 _ HK05.out)).trans HK05.out
    go_simp
    with_reducible rfl
  rotate_left
  · simp only [Act.put, List.setIfInBounds_toArray, List.set_cons_zero, List.set_cons_succ, i64_w, i32_w]
    rfl
  refine pure_ (i := 4) (N := some 71) (v := ?_) (a' := ?_) #[true, true, true, true, true, false, false, false, false, false, false, false, false, false, false] rfl rfl (any_of HT_.out (by kernel_rfl)) (fun _ _ _ h => h) (Or.inl ⟨by rfl, ?_⟩) ?_ ?_
  rotate_left
  · intro w'
    go_simp
    with_reducible rfl
  rotate_left
  · simp only [Act.put, List.setIfInBounds_toArray, List.set_cons_zero, List.set_cons_succ, i64_w, i32_w]
    rfl
  refine pure_ (i := 5) (N := some 72) (v := ?_) (a' := ?_) #[true, true, true, true, true, true, false, false, false, false, false, false, false, false, false] rfl rfl (any_of HT_.out (by kernel_rfl)) (fun _ _ _ h => h) (Or.inl ⟨by rfl, ?_⟩) ?_ ?_
  rotate_left
  · intro w'
    go_simp
    with_reducible rfl
  rotate_left
  · simp only [Act.put, List.setIfInBounds_toArray, List.set_cons_zero, List.set_cons_succ, i64_w, i32_w]
    rfl
  refine pure_ (i := 6) (N := some 73) (v := ?_) (a' := ?_) #[true, true, true, true, true, true, true, false, false, false, false, false, false, false, false] rfl rfl (any_of HT_.out (by kernel_rfl)) (fun _ _ _ h => h) (Or.inl ⟨by rfl, ?_⟩) ?_ ?_
  rotate_left
  · intro w'
    go_simp
    with_reducible rfl
  rotate_left
  · simp only [Act.put, List.setIfInBounds_toArray, List.set_cons_zero, List.set_cons_succ, i64_w, i32_w]
    rfl
  refine take_ (i := 7) (N := some 74) (v := ?_) (a' := ?_) #[true, true, true, true, true, true, true, true, false, false, false, false, false, false, false] rfl rfl (take_ofW HT_.out HW_.out (by kernel_rfl)) (fun _ _ _ h => h) (Or.inl ⟨by rfl, ?_⟩) hHeld ?_ ?_
  rotate_left
  · rintro w' s0
    have m6 := blk_cell (NdB.below HG5.out s0) 6
    go_simp
    with_reducible rfl
  rotate_left
  · simp only [Act.put, List.setIfInBounds_toArray, List.set_cons_zero, List.set_cons_succ, i64_w, i32_w]
    rfl
  refine pure_ (i := 8) (N := some 75) (v := ?_) (a' := ?_) #[true, true, true, true, true, true, true, true, true, false, false, false, false, false, false] rfl rfl (any_of HT_.out (by kernel_rfl)) (fun _ _ _ h => h) (Or.inl ⟨by rfl, ?_⟩) ?_ ?_
  rotate_left
  · intro w'
    go_simp
    with_reducible rfl
  rotate_left
  · simp only [Act.put, List.setIfInBounds_toArray, List.set_cons_zero, List.set_cons_succ, i64_w, i32_w]
    rfl
  refine take_ (i := 9) (N := some 76) (v := ?_) (a' := ?_) #[true, true, true, true, true, true, true, true, true, true, false, false, false, false, false] rfl rfl (take_ofW HT_.out HW_.out (by kernel_rfl)) (fun _ _ _ h => h) (Or.inl ⟨by rfl, ?_⟩) hHeld ?_ ?_
  rotate_left
  · rintro w' s0
    have m9 := blk_cell (NdB.below HA5.out s0) 9
    go_simp
    with_reducible rfl
  rotate_left
  · simp only [Act.put, List.setIfInBounds_toArray, List.set_cons_zero, List.set_cons_succ, i64_w, i32_w]
    rfl
  refine pure_ (i := 10) (N := some 77) (v := ?_) (a' := ?_) #[true, true, true, true, true, true, true, true, true, true, true, false, false, false, false] rfl rfl (any_of HT_.out (by kernel_rfl)) (fun _ _ _ h => h) (Or.inl ⟨by rfl, ?_⟩) ?_ ?_
  rotate_left
  · intro w'
    go_simp
    with_reducible rfl
  rotate_left
  · simp only [Act.put, List.setIfInBounds_toArray, List.set_cons_zero, List.set_cons_succ, i64_w, i32_w]
    rfl
  refine take_ (i := 11) (N := some 78) (v := ?_) (a' := ?_) #[true, true, true, true, true, true, true, true, true, true, true, true, false, false, false] rfl rfl (take_ofW HT_.out HW_.out (by kernel_rfl)) (fun _ _ _ h => h) (Or.inl ⟨by rfl, ?_⟩) hHeld ?_ ?_
  rotate_left
  · rintro w' s0
    have m9 := blk_cell (NdB.below HC5.out s0) 9
    go_simp
    with_reducible rfl
  rotate_left
  · simp only [Act.put, List.setIfInBounds_toArray, List.set_cons_zero, List.set_cons_succ, i64_w, i32_w]
    rfl
  refine one_ (i := 12) (N := some 79) #[true, true, true, true, true, true, true, true, true, true, true, true, true, false, false] rfl rfl (one_of HT_.out (by kernel_rfl)) (by decide) (fun K hK => ?_)
  refine goes_ Tryd.func80 (by kernel_rfl) rfl #[.int .i64 size, .int .i64 depth, .slice A c0.length cc, .int .i64 nw, .slice LA9 nl.f9.length lc9, .slice RA9 nr.f9.length rc9] (by rfl) rfl rfl (by (try simp only [List.map_toArray, List.map_cons, List.map_nil]); first | done | rfl) ?_
  refine (HFORK.out nw _ (HB05.out.trans (HB.out.mono HB05.out.size))).mono ?_
  obtain ⟨lh, hlh⟩ : ∃ lh, lh = hashB size 2 [num8 depth, firstB c0 depth, num8 nw, nl.f9, nr.f9] := ⟨_, rfl⟩
  rw [← hlh]
  have HLH := Aside0.mk hlh
  clear hlh
  rintro e3 wy ⟨v, rfl, hR9, hB9⟩
  obtain ⟨B9, d9, rfl⟩ := Kd.R_slice hR9
  refine ⟨_, rfl, ?_⟩
  have HR9 := Aside0.mk hR9
  have HB9 := Aside0.mk hB9
  have HBy := Aside0.mk (below_step HB.out hB9)
  have HW6 := Aside0.mk HB.out.size
  clear hR9 hB9
  refine hK.out _ _ HBy.out (fun hHeld => ?_)
  clear hK K
  refine norm_ (a' := ?_) ?_ ?_
  rotate_left
  · show Act.put _ (some 79) _ = _
    simp only [Act.put, List.setIfInBounds_toArray, List.set_cons_zero, List.set_cons_succ, i64_w, i32_w]
    rfl
  refine pure_ (i := 13) (N := some 80) (v := ?_) (a' := ?_) #[true, true, true, true, true, true, true, true, true, true, true, true, true, true, false] rfl rfl (any_of HT_.out (by kernel_rfl)) (fun _ _ _ h => h) (Or.inl ⟨by rfl, ?_⟩) ?_ ?_
  rotate_left
  · intro w'
    go_simp
    with_reducible rfl
  rotate_left
  · simp only [Act.put, List.setIfInBounds_toArray, List.set_cons_zero, List.set_cons_succ, i64_w, i32_w]
    rfl
  refine last_ (i := 14) (N := none) #[true, true, true, true, true, true, true, true, true, true, true, true, true, true, true] rfl rfl (one_of HT_.out (by kernel_rfl)) (by decide) (fun K hK => ?_)
  have HGy := Aside0.mk (NdB.below HG5.out HBy.out)
  have k3 := blk_cell HGy.out 9
  have kf := blk_frozen HGy.out 9
  obtain ⟨w8, hw8⟩ : ∃ w8, w8 = wy.setCell ⟨g, 9, none⟩ (.slice B9 lh.length d9) := ⟨_, rfl⟩
  refine skip_ (w1 := w8) (by rfl) rfl ?_ ?_
  · (go_simp <;> first | rfl | (rw [hw8]; rfl) | (subst hw8; rfl))
  clear k3 kf hHeld
  have HG8 := Aside0.mk (show NdB w8 g [.bool false, .slice none 0 0, .slice none 0 0, .int .i64 0, .int .i64 depth, .slice B5 (firstB c0 depth).length d5, .int .i64 nw, .int .i64 (kl : Int), .int .i64 (kr : Int), .slice B9 lh.length d9] from by rw [hw8]; exact blk_set HGy.out 9 _)
  have HW8 := Aside0.mk hw8
  clear hw8
  refine hK.out _ _ ?_
  clear hK K
  refine done_ (done_of HT_.out (by kernel_rfl)) ?_
  clear HT_ HW_
  have HB08 := Aside0.mk (show Below w.heap.size w w8 from by
    rw [HW8.out]
    exact Below.setCell (HB05.out.trans (HBy.out.mono HB05.out.size)) (by have := HGE.out; have := HB3.out.size; show w.heap.size ≤ g; omega) _)
  obtain ⟨z0, z1, z2, z3, z4, z5, z6, z7, z8, z9⟩ := NdB.cells HG8.out
  go_wp2_with fail
  clear z0 z1 z2 z3 z4 z5 z6 z7 z8 z9
  obtain ⟨X4, hX4⟩ : ∃ X4 : Nat → Prop, X4 = fun k => X k ∨ (w.heap.size ≤ k ∧ k < w8.heap.size) := ⟨_, rfl⟩
  have hsepX : ∀ k, X k → k < w.heap.size ∧ ¬ OwnQ q vl k := by
    obtain ⟨rows, hv⟩ := HM.out.mem
    exact hv.sep
  have hownlt : ∀ k, OwnQ q vl k → k < w.heap.size := by
    obtain ⟨rows, hv⟩ := HM.out.mem
    exact hv.own_lt
  have s1 := HB08.out.size
  have s3 := HB3.out.size
  have s5 := HB5.out.size
  have sy := HBy.out.size
  have s6 := HW6.out
  have hge := HGE.out
  have hgl : g < w5.heap.size := blk_lt HG5.out
  have hsz : w8.heap.size = wy.heap.size := by rw [HW8.out]; simp [World.setCell]
  have hfar : ∀ k, k ≠ g → w8.heap[k]? = wy.heap[k]? := fun k hk => by rw [HW8.out]; exact Below.heap_setCell wy ⟨g, 9, none⟩ _ k hk
  have hM8 : RefM w8 base q size most vl X4 cs := HM.out.step (by omega) (fun k hk _ => HB08.out.block k hk) (fun k hx => by rw [hX4]; exact .inl hx) (fun k hx => by
    rw [hX4] at hx
    rcases hx with hx | hx
    · exact ⟨by have := (hsepX k hx).1; omega, (hsepX k hx).2⟩
    · exact ⟨by omega, fun ho => by have := hownlt k ho; omega⟩)
  have hb5 : BX w8 X4 (.slice B5 (firstB c0 depth).length d5) (firstB c0 depth) :=
    Kd.V_mono (Kd.V_step (Kd.R_V (base' := 0) (Kd.R_bound HR5.out)) (fun k hk hl => by rw [hfar k hk.1]; exact HBy.out.block k hl)) (fun k hk => by rw [hX4]; have := hk.2.1; have := hk.2.2.1; exact .inr ⟨by omega, by omega⟩)
  have hb9 : BX w8 X4 (.slice B9 lh.length d9) lh :=
    Kd.V_mono (Kd.V_step (Kd.R_V (base' := 0) (Kd.R_bound HR9.out)) (fun k hk hl => hfar k (by have := hk.2.1; omega))) (fun k hk => by rw [hX4]; have := hk.2.1; have := hk.2.2.1; exact .inr ⟨by omega, by omega⟩)
  have HGR := Aside0.mk (show Grew w X X4 from fun k hk => by
    rw [hX4] at hk
    exact hk.imp id (fun h => h.1))
  have h9 : 0 < lh.length := by
    rw [HLH.out, hashB_len size 2 _ HM.out.hs (by
      have h1 := firstB_length c0 depth
      have h2 := H65.out
      have h3 := HLN.out.1.1.2.2.2
      have h4 := HLN.out.2.1.2.2.2
      simp [isLong, num8_len]
      omega)]
    have := HM.out.hs
    omega
  have hput := rput_calls hM8 ⟨false, [], [], 0, depth, firstB c0 depth, nw, (kl : Int), (kr : Int), lh⟩ h9 none none B5 B9 0 0 d5 d9 (Kd.V_nil _ _ _ _ _) (Kd.V_nil _ _ _ _ _) hb5 hb9
  clear hM8 hb5 hb9 hX4 hsepX hownlt hfar hsz s1 s3 s5 sy s6 hge hgl h9
  refine hput.mono ?_
  rintro e5 w9 hpost
  have HPO := Aside0.mk hpost
  clear hpost hput
  by_cases hfull : (usedN cs : Int) = most
  · obtain ⟨rfl, hp⟩ := HPO.out.full hfull
    have HP := Aside0.mk hp
    have HFU := Aside0.mk hfull
    clear hp HPO hfull
    go_wp2_with fail
    go_ret2
    exact ⟨fun h => absurd h HC.out, fun _ _ => ⟨rfl, HP.out.start HGR.out HB08.out HBW.out.1⟩, fun _ h => absurd HFU.out h⟩
  · obtain ⟨rfl, hp⟩ := HPO.out.more hfull
    have HP := Aside0.mk hp
    have HFU := Aside0.mk hfull
    clear hp HPO hfull
    go_wp2_with fail
    go_ret2
    refine ⟨fun h => absurd h HC.out, fun _ h => absurd h HFU.out, fun _ _ => ⟨rfl, ?_⟩⟩
    rw [HOF.out]
    unfold rforkNd
    rw [← HNW.out, ← HLH.out]
    exact HP.out.start HGR.out HB08.out HBW.out.1
end Go.Proofs.YtdeneoknjeegbaaDoor.P
end
section
set_option linter.unusedVariables false
set_option linter.unusedSimpArgs false
namespace Go.Proofs.YtdeneoknjeegbaaDoor.P
open Go.RowKit Go.Proofs.YtdeneoknjeegbaaDoorW.PrintWords Go.Proofs.YtdeneoknjeegbaaDoorW.PrintLast Go.Proofs.YtdeneoknjeegbaaDoorW.PrintMore
structure RwI (w wr : World) (base q gm n : Nat) (size most : Int) (vl : Value) (X : Nat → Prop) (ms : List Bool) (cs' : Cs) : Prop where
  m : RefM wr base q size most vl X cs'
  k : Kept w wr (OwnQ q vl)
  b : Below base w wr
  ms : MarksR wr w.heap.size (.slice (some ⟨gm, 0, none⟩) n n) ms
end Go.Proofs.YtdeneoknjeegbaaDoor.P
end
