/- Lemmas of this claim, part 16. -/
import Derived.Test.YtdeneoknjeegbaaDoorPartArenaSwept15
section
set_option linter.unusedVariables false
set_option linter.unusedSimpArgs false
namespace Go.Proofs.YtdeneoknjeegbaaDoor.P
open Go.RowKit Go.Proofs.YtdeneoknjeegbaaDoor.Pure Go.Proofs.YtdeneoknjeegbaaDoorW.PrintWords Go.Proofs.YtdeneoknjeegbaaDoorW.PrintLast Go.Proofs.YtdeneoknjeegbaaDoorW.PrintMore
def rcopy_T1 : Bool × List (List Nat × List Nat) := (true, [([], []), ([], []), ([1], [1]), ([0, 2], [0, 2]), ([], []), ([], []), ([5], [5]), ([4, 6, 3], [4, 6]), ([0, 1, 2, 3, 5, 6], []), ([8, 3, 7, 0, 1, 2, 3, 5, 6], [3, 8]), ([0, 1, 2, 3, 4, 5, 6, 7, 8, 9], []), ([10, 7, 9, 0, 1, 2, 3, 4, 5, 6, 7, 8, 9], [7, 10])])
def rcopy_B1 : List Nat := [0, 0, 2, 7, 0, 0, 32, 127, 111, 511, 1023, 2047]
theorem rcopy_tab1 : rtab .any (opsOf Tryd.f45 1) = rcopy_T1 := by kernel_rfl
theorem rcopy_tab2 : rtab .any (opsOf Tryd.f45 2) = rcopy_T1 := by kernel_rfl
theorem rcopy_bits1 : waitsOk rcopy_T1.2 rcopy_B1 = true := by kernel_rfl
theorem rcopy_bits2 : waitsOk rcopy_T1.2 rcopy_B1 = true := by kernel_rfl
set_option maxRecDepth 100000 in
theorem results_copy (W : World) (g : Nat) {y0 y1 y2 y3 y4 y5 y6 y7 y8 y9 : Value} (h : NdB W g [y0, y1, y2, y3, y4, y5, y6, y7, y8, y9]) (tm : Array Value) (h2 : tm[2]?.getD undef = .pointer (some ⟨g, 0, none⟩)) : (results Tryd.f45 tm).run Tryd.prog W = .ok (.agg #[y0, y1, y2, y3, y4, y5, y6, y7, y8, y9]) W := by
  obtain ⟨c0, c1, c2, c3, c4, c5, c6, c7, c8, c9⟩ := h.cells
  simp [results, Tryd.results45, go_sem, h2, c0, c1, c2, c3, c4, c5, c6, c7, c8, c9]
set_option maxHeartbeats 8000000 in
set_option maxRecDepth 100000 in
theorem rcopy_calls {w : World} {X : Nat → Prop} (n : Nd) (hl : NdLen n) (A1 A2 A5 A9 : Option Addr) (c1 c2 c5 c9 : Nat)
    (b1 : BX w X (.slice A1 n.f1.length c1) n.f1) (b2 : BX w X (.slice A2 n.f2.length c2) n.f2) (b5 : BX w X (.slice A5 n.f5.length c5) n.f5) (b9 : BX w X (.slice A9 n.f9.length c9) n.f9) :
    Calls Tryd.prog 45 #[.agg ([.bool n.f0, .slice A1 n.f1.length c1, .slice A2 n.f2.length c2, .int .i64 n.f3, .int .i64 n.f4, .slice A5 n.f5.length c5, .int .i64 n.f6, .int .i64 n.f7, .int .i64 n.f8, .slice A9 n.f9.length c9] : List Value).toArray] w fun e w' => Below w.heap.size w w' ∧ ∃ (E1 E2 E5 E9 : Option Addr) (e1 e2 e5 e9 : Nat),
      e = .returned (.agg #[.bool n.f0, .slice E1 n.f1.length e1, .slice E2 n.f2.length e2, .int .i64 n.f3, .int .i64 n.f4, .slice E5 n.f5.length e5, .int .i64 n.f6, .int .i64 n.f7, .int .i64 n.f8, .slice E9 n.f9.length e9]) ∧
      BX w' (fun k => w.heap.size ≤ k) (.slice E1 n.f1.length e1) n.f1 ∧ BX w' (fun k => w.heap.size ≤ k) (.slice E2 n.f2.length e2) n.f2 ∧ BX w' (fun k => w.heap.size ≤ k) (.slice E5 n.f5.length e5) n.f5 ∧ BX w' (fun k => w.heap.size ≤ k) (.slice E9 n.f9.length e9) n.f9 := by
  have HLEN := Aside0.mk (show n.f1.length ≤ 65535 ∧ n.f2.length ≤ 65535 ∧ n.f5.length ≤ 65535 ∧ n.f9.length ≤ 65535 from hl)
  have HX1 := Aside0.mk b1
  have HX2 := Aside0.mk b2
  have HX5 := Aside0.mk b5
  have HX9 := Aside0.mk b9
  clear hl b1 b2 b5 b9
  go_enter Tryd.func45, Tryd.ntmps45
  go_wp2_with fail
  obtain ⟨W1, hW1⟩ : ∃ W1, W1 = (w.alloc (.cells ([.bool n.f0, .slice A1 n.f1.length c1, .slice A2 n.f2.length c2, .int .i64 n.f3, .int .i64 n.f4, .slice A5 n.f5.length c5, .int .i64 n.f6, .int .i64 n.f7, .int .i64 n.f8, .slice A9 n.f9.length c9] : List Value).toArray 39)).alloc (.cells zeroR.toArray 39) := ⟨_, rfl⟩
  change Code.wp _ _ _ _ ((w.alloc (.cells ([.bool n.f0, .slice A1 n.f1.length c1, .slice A2 n.f2.length c2, .int .i64 n.f3, .int .i64 n.f4, .slice A5 n.f5.length c5, .int .i64 n.f6, .int .i64 n.f7, .int .i64 n.f8, .slice A9 n.f9.length c9] : List Value).toArray 39)).alloc (.cells zeroR.toArray 39))
  rw [← hW1]
  have ha := below_alloc (Below.refl w.heap.size w) (.cells ([.bool n.f0, .slice A1 n.f1.length c1, .slice A2 n.f2.length c2, .int .i64 n.f3, .int .i64 n.f4, .slice A5 n.f5.length c5, .int .i64 n.f6, .int .i64 n.f7, .int .i64 n.f8, .slice A9 n.f9.length c9] : List Value).toArray 39)
  have hN : NdB (w.alloc (.cells ([.bool n.f0, .slice A1 n.f1.length c1, .slice A2 n.f2.length c2, .int .i64 n.f3, .int .i64 n.f4, .slice A5 n.f5.length c5, .int .i64 n.f6, .int .i64 n.f7, .int .i64 n.f8, .slice A9 n.f9.length c9] : List Value).toArray 39)) w.heap.size [.bool n.f0, .slice A1 n.f1.length c1, .slice A2 n.f2.length c2, .int .i64 n.f3, .int .i64 n.f4, .slice A5 n.f5.length c5, .int .i64 n.f6, .int .i64 n.f7, .int .i64 n.f8, .slice A9 n.f9.length c9] := heap_alloc_new w _
  have hs1 : (w.alloc (.cells ([.bool n.f0, .slice A1 n.f1.length c1, .slice A2 n.f2.length c2, .int .i64 n.f3, .int .i64 n.f4, .slice A5 n.f5.length c5, .int .i64 n.f6, .int .i64 n.f7, .int .i64 n.f8, .slice A9 n.f9.length c9] : List Value).toArray 39)).heap.size = w.heap.size + 1 := by simp
  have hb := below_alloc (Below.refl (w.alloc (.cells ([.bool n.f0, .slice A1 n.f1.length c1, .slice A2 n.f2.length c2, .int .i64 n.f3, .int .i64 n.f4, .slice A5 n.f5.length c5, .int .i64 n.f6, .int .i64 n.f7, .int .i64 n.f8, .slice A9 n.f9.length c9] : List Value).toArray 39)).heap.size _) (.cells zeroR.toArray 39)
  have hZ := heap_alloc_new (w.alloc (.cells ([.bool n.f0, .slice A1 n.f1.length c1, .slice A2 n.f2.length c2, .int .i64 n.f3, .int .i64 n.f4, .slice A5 n.f5.length c5, .int .i64 n.f6, .int .i64 n.f7, .int .i64 n.f8, .slice A9 n.f9.length c9] : List Value).toArray 39)) (.cells zeroR.toArray 39)
  rw [← hW1] at hb hZ
  rw [hs1] at hb hZ
  obtain ⟨b, hbe⟩ : ∃ b, b = w.heap.size := ⟨_, rfl⟩
  obtain ⟨z, hze⟩ : ∃ z, z = w.heap.size + 1 := ⟨_, rfl⟩
  have HBE := Aside0.mk (And.intro hbe hze)
  have HN1 := Aside0.mk (show NdB W1 b [.bool n.f0, .slice A1 n.f1.length c1, .slice A2 n.f2.length c2, .int .i64 n.f3, .int .i64 n.f4, .slice A5 n.f5.length c5, .int .i64 n.f6, .int .i64 n.f7, .int .i64 n.f8, .slice A9 n.f9.length c9] from by rw [hbe]; exact NdB.below hN (by rw [hs1]; exact hb))
  have HZ1 := Aside0.mk (show NdB W1 z zeroR from by rw [hze]; exact hZ)
  have HB1 := Aside0.mk (show Below w.heap.size w W1 from ha.trans (hb.mono (by omega)))
  rw [← hze, ← hbe]
  have HGE := Aside0.mk (show w.heap.size ≤ b from by omega)
  have HLE1 := Aside0.mk (show w.heap.size ≤ W1.heap.size from HB1.out.size)
  have H1C := Aside0.mk (show ∀ W, Below W1.heap.size W1 W → Kd.C (Kd.int .u8) W A1 n.f1.length n.f1 from fun W hb => (Kd.V_reads' (Kd.V_below (Kd.V_below HX1.out HB1.out) hb)).2.2)
  have H2C := Aside0.mk (show ∀ W, Below W1.heap.size W1 W → Kd.C (Kd.int .u8) W A2 n.f2.length n.f2 from fun W hb => (Kd.V_reads' (Kd.V_below (Kd.V_below HX2.out HB1.out) hb)).2.2)
  clear hbe hze hZ hN hb ha hs1 hW1
  have HSOK := Aside0.mk (show ∀ W, Below W1.heap.size W1 W → W.cell? ⟨b, 1, none⟩ = some (.slice A1 n.f1.length c1) ∧ W.cell? ⟨b, 2, none⟩ = some (.slice A2 n.f2.length c2) from fun W hb => ⟨blk_cell (NdB.below HN1.out hb) 1, blk_cell (NdB.below HN1.out hb) 2⟩)
  refine start_ (n := 12) (S := fun w' => w'.cell? ⟨b, 1, none⟩ = some (.slice A1 n.f1.length c1) ∧ w'.cell? ⟨b, 2, none⟩ = some (.slice A2 n.f2.length c2)) (ds := [9, 11]) #[false, false, false, false, false, false, false, false, false, false, false, false] (by kernel_rfl) rfl rfl (HSOK.out _ (below_drew (Below.refl _ _))) (fun hHeld => ?_); refine with_tabW rcopy_tab1 rcopy_bits1 (fun HT_ HW_ => ?_)
  have HB0 := Aside0.mk (show Below W1.heap.size W1 W1.drew from below_drew (Below.refl _ _))
  generalize hgw : W1.drew = w1 at HB0 hHeld ⊢
  clear hgw
  refine pure_ (i := 1) (N := some 4) (v := ?_) (a' := ?_) #[false, true, false, false, false, false, false, false, false, false, false, false] rfl rfl (any_of HT_.out (by kernel_rfl)) (fun _ _ _ h => h) (Or.inl ⟨by rfl, ?_⟩) ?_ ?_
  rotate_left
  · intro w'
    go_simp
    with_reducible rfl
  rotate_left
  · simp only [Act.put, List.setIfInBounds_toArray, List.set_cons_zero, List.set_cons_succ, i64_w, i32_w]
    rfl
  refine take_ (i := 2) (N := some 5) (v := ?_) (a' := ?_) #[false, true, true, false, false, false, false, false, false, false, false, false] rfl rfl (take_ofW HT_.out HW_.out (by kernel_rfl)) (fun _ _ _ h => h) (Or.inl ⟨by rfl, ?_⟩) hHeld ?_ ?_
  rotate_left
  · rintro w' ⟨s0, s1⟩
    go_simp
    with_reducible rfl
  rotate_left
  · simp only [Act.put, List.setIfInBounds_toArray, List.set_cons_zero, List.set_cons_succ, i64_w, i32_w]
    rfl
  refine pure_ (i := 5) (N := some 8) (v := ?_) (a' := ?_) #[false, true, true, false, false, true, false, false, false, false, false, false] rfl rfl (any_of HT_.out (by kernel_rfl)) (fun _ _ _ h => h) (Or.inl ⟨by rfl, ?_⟩) ?_ ?_
  rotate_left
  · intro w'
    go_simp
    with_reducible rfl
  rotate_left
  · simp only [Act.put, List.setIfInBounds_toArray, List.set_cons_zero, List.set_cons_succ, i64_w, i32_w]
    rfl
  refine take_ (i := 6) (N := some 9) (v := ?_) (a' := ?_) #[false, true, true, false, false, true, true, false, false, false, false, false] rfl rfl (take_ofW HT_.out HW_.out (by kernel_rfl)) (fun _ _ _ h => h) (Or.inl ⟨by rfl, ?_⟩) hHeld ?_ ?_
  rotate_left
  · rintro w' ⟨s0, s1⟩
    go_simp
    with_reducible rfl
  rotate_left
  · simp only [Act.put, List.setIfInBounds_toArray, List.set_cons_zero, List.set_cons_succ, i64_w, i32_w]
    rfl
  refine join_ (σ := Nat × Option Addr × Nat × Nat) 4 #[true, true, true, true, true, true, true, false, true, false, false, false] (fun s_ => [(3, .slice (some ⟨s_.1, 0, none⟩) 0 0), (6, .slice s_.2.1 n.f1.length s_.2.2.1), (7, .slice (some ⟨s_.2.2.2, 0, none⟩) 0 0), (11, .pointer (some ⟨b, 1, none⟩))]) (fun s_ w' => Kd.R (Kd.int .u8) 5 w' W1.heap.size (fun k => k ≠ s_.2.2.2) (.slice s_.2.1 n.f1.length s_.2.2.1) n.f1 ∧ Kd.R (Kd.int .u8) 5 w' W1.heap.size (fun _ => True) (.slice (some ⟨s_.2.2.2, 0, none⟩) 0 0) [] ∧ Below W1.heap.size W1 w') ?_ ?_
  rotate_left
  · intro hCont
    refine two_ (i := 0) (j := 4) (Ni := some 3) (Nj := some 7) #[true, true, true, false, false, true, true, false, false, false, false, false] #[false, true, true, false, true, true, true, false, false, false, false, false] rfl rfl rfl rfl (two_of HT_.out (by kernel_rfl)) (by decide) (by decide) (fun K hK => ?_) (fun K hK => ?_)
    · skip
      refine value_ (v := .slice (some ⟨w1.heap.size, 0, none⟩) 0 0) (w1 := w1.alloc (.cells #[] 5)) (by rfl) rfl ?_ ?_
      · (go_simp <;> first | rfl | done)
      obtain ⟨g1, wa, hal, hsz, hr1⟩ := lit0_new w1 W1.heap.size HB0.out.size
      rw [hal.1, hal.2]
      clear hal
      refine hK.out _ _ (HSOK.out _ (HB0.out.trans (hsz.2.2.mono HB0.out.size))) (fun hHeld => ?_)
      clear hK K
      refine norm_ (a' := ?_) ?_ ?_
      rotate_left
      · show Act.put _ (some 3) _ = _
        simp only [Act.put, List.setIfInBounds_toArray, List.set_cons_zero, List.set_cons_succ, i64_w, i32_w]
        rfl
      have HBa := Aside0.mk (HB0.out.trans (hsz.2.2.mono HB0.out.size))
      have HSa := Aside0.mk hsz
      have HR1 := Aside0.mk hr1
      clear hr1 hsz
      refine two_ (i := 3) (j := 4) (Ni := some 6) (Nj := some 7) #[true, true, true, true, false, true, true, false, false, false, false, false] #[true, true, true, false, true, true, true, false, false, false, false, false] rfl rfl rfl rfl (two_of HT_.out (by kernel_rfl)) (by decide) (by decide) (fun K hK => ?_) (fun K hK => ?_)
      · skip
        refine app8_step W1.heap.size (by rfl) (.tmp 3) (.tmp 5) rfl rfl (.slice (some ⟨g1, 0, none⟩) 0 0) A1 n.f1.length c1 (fun _ => True) rfl rfl n.f1 HR1.out (H1C.out _ HBa.out) (fun _ _ => trivial) HBa.out.size (by have := HLEN.out; omega) ?_
        intro E1 e1 wb hr hx hg
        refine hK.out _ _ (HSOK.out _ (HBa.out.trans hx)) (fun hHeld => ?_)
        clear hK K
        refine norm_ (a' := ?_) ?_ ?_
        rotate_left
        · show Act.put _ (some 6) _ = _
          simp only [Act.put, List.setIfInBounds_toArray, List.set_cons_zero, List.set_cons_succ, i64_w, i32_w]
          rfl
        have HBb := Aside0.mk (HBa.out.trans hx)
        have HRc := Aside0.mk hr
        clear hr hx hg
        refine pure_ (i := 8) (N := some 11) (v := ?_) (a' := ?_) #[true, true, true, true, false, true, true, false, true, false, false, false] rfl rfl (any_of HT_.out (by kernel_rfl)) (fun _ _ _ h => h) (Or.inl ⟨by rfl, ?_⟩) ?_ ?_
        rotate_left
        · intro w'
          go_simp
          with_reducible rfl
        rotate_left
        · simp only [Act.put, List.setIfInBounds_toArray, List.set_cons_zero, List.set_cons_succ, i64_w, i32_w]
          rfl
        refine one_ (i := 4) (N := some 7) #[true, true, true, true, true, true, true, false, true, false, false, false] rfl rfl (one_of HT_.out (by kernel_rfl)) (by decide) (fun K hK => ?_)
        refine value_ (v := .slice (some ⟨wb.heap.size, 0, none⟩) 0 0) (w1 := wb.alloc (.cells #[] 5)) (by rfl) rfl ?_ ?_
        · (go_simp <;> first | rfl | done)
        obtain ⟨g2, wc, hal, hsz, hr2⟩ := lit0_new wb W1.heap.size HBb.out.size
        rw [hal.1, hal.2]
        clear hal
        refine hK.out _ _ (HSOK.out _ (HBb.out.trans (hsz.2.2.mono HBb.out.size))) (fun hHeld => ?_)
        clear hK K
        refine norm_ (a' := ?_) ?_ ?_
        rotate_left
        · show Act.put _ (some 7) _ = _
          simp only [Act.put, List.setIfInBounds_toArray, List.set_cons_zero, List.set_cons_succ, i64_w, i32_w]
          rfl
        have HBq := Aside0.mk (HBb.out.trans (hsz.2.2.mono HBb.out.size))
        have HRb := Aside0.mk hr2
        have HRa := Aside0.mk (Kd.R_mono (Kd.R_below (Kd.R_bound HRc.out) hsz.2.2) (ok' := fun k => k ≠ g2) (fun k hk => by have h1 := hk.2.1; have h2 := hsz.1; omega))
        clear hr2 hsz HRc
        exact norm_ (by simp only [putAll, Act.put, List.setIfInBounds_toArray, List.set_cons_zero, List.set_cons_succ]) (hCont (g1, E1, e1, g2) _ ⟨HRa.out, HRb.out, HBq.out⟩)
      · skip
        refine value_ (v := .slice (some ⟨wa.heap.size, 0, none⟩) 0 0) (w1 := wa.alloc (.cells #[] 5)) (by rfl) rfl ?_ ?_
        · (go_simp <;> first | rfl | done)
        obtain ⟨g2, wb, hal, hsz, hr2⟩ := lit0_new wa W1.heap.size HBa.out.size
        rw [hal.1, hal.2]
        clear hal
        refine hK.out _ _ (HSOK.out _ (HBa.out.trans (hsz.2.2.mono HBa.out.size))) (fun hHeld => ?_)
        clear hK K
        refine norm_ (a' := ?_) ?_ ?_
        rotate_left
        · show Act.put _ (some 7) _ = _
          simp only [Act.put, List.setIfInBounds_toArray, List.set_cons_zero, List.set_cons_succ, i64_w, i32_w]
          rfl
        have HBb := Aside0.mk (HBa.out.trans (hsz.2.2.mono HBa.out.size))
        have HRd := Aside0.mk hr2
        have HSb := Aside0.mk hsz
        have HR1b := Aside0.mk (Kd.R_reok (ok := fun k => k ≠ g2) rfl (Kd.R_below HR1.out hsz.2.2) (fun k e => by rw [own_some] at e; have e := Option.some.inj e; have h1 := HSa.out.2.1; have h2 := hsz.1; omega))
        clear hr2 hsz
        refine one_ (i := 3) (N := some 6) #[true, true, true, true, true, true, true, false, false, false, false, false] rfl rfl (one_of HT_.out (by kernel_rfl)) (by decide) (fun K hK => ?_)
        refine app8_step W1.heap.size (by rfl) (.tmp 3) (.tmp 5) rfl rfl (.slice (some ⟨g1, 0, none⟩) 0 0) A1 n.f1.length c1 (fun k => k ≠ g2) rfl rfl n.f1 HR1b.out (H1C.out _ HBb.out) (fun k hk => by have := HSb.out.2.1; omega) HBb.out.size (by have := HLEN.out; omega) ?_
        intro E1 e1 wc hr hx hg
        refine hK.out _ _ (HSOK.out _ (HBb.out.trans hx)) (fun hHeld => ?_)
        clear hK K
        refine norm_ (a' := ?_) ?_ ?_
        rotate_left
        · show Act.put _ (some 6) _ = _
          simp only [Act.put, List.setIfInBounds_toArray, List.set_cons_zero, List.set_cons_succ, i64_w, i32_w]
          rfl
        have HBq := Aside0.mk (HBb.out.trans hx)
        have HRa := Aside0.mk hr
        have HRb := Aside0.mk (Kd.R_mono (Kd.R_step (Kd.R_reok (ok := fun k => k = g2) rfl HRd.out (fun k e => by rw [own_some] at e; exact (Option.some.inj e).symm)) (fun k hk hl => hg.block k hl (fun e => by rw [own_some] at e; have e := Option.some.inj e; have h1 := HSa.out.2.1; have h2 := HSb.out.1; omega))) (fun _ _ => trivial))
        clear hr hx hg
        refine pure_ (i := 8) (N := some 11) (v := ?_) (a' := ?_) #[true, true, true, true, true, true, true, false, true, false, false, false] rfl rfl (any_of HT_.out (by kernel_rfl)) (fun _ _ _ h => h) (Or.inl ⟨by rfl, ?_⟩) ?_ ?_
        rotate_left
        · intro w'
          go_simp
          with_reducible rfl
        rotate_left
        · simp only [Act.put, List.setIfInBounds_toArray, List.set_cons_zero, List.set_cons_succ, i64_w, i32_w]
          rfl
        exact norm_ (by simp only [putAll, Act.put, List.setIfInBounds_toArray, List.set_cons_zero, List.set_cons_succ]) (hCont (g1, E1, e1, g2) _ ⟨HRa.out, HRb.out, HBq.out⟩)
    · skip
      refine value_ (v := .slice (some ⟨w1.heap.size, 0, none⟩) 0 0) (w1 := w1.alloc (.cells #[] 5)) (by rfl) rfl ?_ ?_
      · (go_simp <;> first | rfl | done)
      obtain ⟨g2, wa, hal, hsz, hr2⟩ := lit0_new w1 W1.heap.size HB0.out.size
      rw [hal.1, hal.2]
      clear hal
      refine hK.out _ _ (HSOK.out _ (HB0.out.trans (hsz.2.2.mono HB0.out.size))) (fun hHeld => ?_)
      clear hK K
      refine norm_ (a' := ?_) ?_ ?_
      rotate_left
      · show Act.put _ (some 7) _ = _
        simp only [Act.put, List.setIfInBounds_toArray, List.set_cons_zero, List.set_cons_succ, i64_w, i32_w]
        rfl
      have HBa := Aside0.mk (HB0.out.trans (hsz.2.2.mono HB0.out.size))
      have HSa := Aside0.mk hsz
      have HR2 := Aside0.mk hr2
      clear hr2 hsz
      refine one_ (i := 0) (N := some 3) #[true, true, true, false, true, true, true, false, false, false, false, false] rfl rfl (one_of HT_.out (by kernel_rfl)) (by decide) (fun K hK => ?_)
      refine value_ (v := .slice (some ⟨wa.heap.size, 0, none⟩) 0 0) (w1 := wa.alloc (.cells #[] 5)) (by rfl) rfl ?_ ?_
      · (go_simp <;> first | rfl | done)
      obtain ⟨g1, wb, hal, hsz, hr1⟩ := lit0_new wa W1.heap.size HBa.out.size
      rw [hal.1, hal.2]
      clear hal
      refine hK.out _ _ (HSOK.out _ (HBa.out.trans (hsz.2.2.mono HBa.out.size))) (fun hHeld => ?_)
      clear hK K
      refine norm_ (a' := ?_) ?_ ?_
      rotate_left
      · show Act.put _ (some 3) _ = _
        simp only [Act.put, List.setIfInBounds_toArray, List.set_cons_zero, List.set_cons_succ, i64_w, i32_w]
        rfl
      have HBb := Aside0.mk (HBa.out.trans (hsz.2.2.mono HBa.out.size))
      have HSb := Aside0.mk hsz
      have HR1b := Aside0.mk (Kd.R_reok (ok := fun k => k ≠ g2) rfl hr1 (fun k e => by rw [own_some] at e; have e := Option.some.inj e; have h1 := HSa.out.2.1; have h2 := hsz.1; omega))
      have HRd := Aside0.mk (Kd.R_below HR2.out hsz.2.2)
      clear hr1 hsz
      refine one_ (i := 3) (N := some 6) #[true, true, true, true, true, true, true, false, false, false, false, false] rfl rfl (one_of HT_.out (by kernel_rfl)) (by decide) (fun K hK => ?_)
      refine app8_step W1.heap.size (by rfl) (.tmp 3) (.tmp 5) rfl rfl (.slice (some ⟨g1, 0, none⟩) 0 0) A1 n.f1.length c1 (fun k => k ≠ g2) rfl rfl n.f1 HR1b.out (H1C.out _ HBb.out) (fun k hk => by have := HSa.out.2.1; have := HSb.out.2.1; have := HSb.out.1; omega) HBb.out.size (by have := HLEN.out; omega) ?_
      intro E1 e1 wc hr hx hg
      refine hK.out _ _ (HSOK.out _ (HBb.out.trans hx)) (fun hHeld => ?_)
      clear hK K
      refine norm_ (a' := ?_) ?_ ?_
      rotate_left
      · show Act.put _ (some 6) _ = _
        simp only [Act.put, List.setIfInBounds_toArray, List.set_cons_zero, List.set_cons_succ, i64_w, i32_w]
        rfl
      have HBq := Aside0.mk (HBb.out.trans hx)
      have HRa := Aside0.mk hr
      have HRb := Aside0.mk (Kd.R_mono (Kd.R_step (Kd.R_reok (ok := fun k => k = g2) rfl HRd.out (fun k e => by rw [own_some] at e; exact (Option.some.inj e).symm)) (fun k hk hl => hg.block k hl (fun e => by rw [own_some] at e; have e := Option.some.inj e; have h1 := HSa.out.2.1; have h2 := HSb.out.1; omega))) (fun _ _ => trivial))
      clear hr hx hg
      refine pure_ (i := 8) (N := some 11) (v := ?_) (a' := ?_) #[true, true, true, true, true, true, true, false, true, false, false, false] rfl rfl (any_of HT_.out (by kernel_rfl)) (fun _ _ _ h => h) (Or.inl ⟨by rfl, ?_⟩) ?_ ?_
      rotate_left
      · intro w'
        go_simp
        with_reducible rfl
      rotate_left
      · simp only [Act.put, List.setIfInBounds_toArray, List.set_cons_zero, List.set_cons_succ, i64_w, i32_w]
        rfl
      exact norm_ (by simp only [putAll, Act.put, List.setIfInBounds_toArray, List.set_cons_zero, List.set_cons_succ]) (hCont (g1, E1, e1, g2) _ ⟨HRa.out, HRb.out, HBq.out⟩)
  rintro ⟨g1, E1, e1, g2⟩ wq ⟨hra, hrb, hbq⟩
  have hHeld := HSOK.out _ hbq
  have HRa := Aside0.mk hra
  have HRb := Aside0.mk hrb
  have HBq := Aside0.mk hbq
  clear hra hrb hbq
  refine norm_ (a' := ?_) ?_ ?_
  rotate_left
  · simp only [putAll, Act.put, List.setIfInBounds_toArray, List.set_cons_zero, List.set_cons_succ]
    rfl
  refine one_ (i := 7) (N := some 10) #[true, true, true, true, true, true, true, true, true, false, false, false] rfl rfl (one_of HT_.out (by kernel_rfl)) (by decide) (fun K hK => ?_)
  refine app8_step W1.heap.size (by rfl) (.tmp 7) (.tmp 9) rfl rfl (.slice (some ⟨g2, 0, none⟩) 0 0) A2 n.f2.length c2 (fun _ => True) rfl rfl n.f2 HRb.out (H2C.out _ HBq.out) (fun _ _ => trivial) HBq.out.size (by have := HLEN.out; omega) ?_
  intro E2 e2 wz hr hx hg
  refine hK.out _ _ (HSOK.out _ (HBq.out.trans hx)) (fun hHeld => ?_)
  clear hK K
  refine norm_ (a' := ?_) ?_ ?_
  rotate_left
  · show Act.put _ (some 10) _ = _
    simp only [Act.put, List.setIfInBounds_toArray, List.set_cons_zero, List.set_cons_succ, i64_w, i32_w]
    rfl
  have HBz := Aside0.mk (HBq.out.trans hx)
  have HR2 := Aside0.mk hr
  have HR1 := Aside0.mk (Kd.R_mono (Kd.R_step HRa.out (fun k hk hl => hg.block k hl (fun e => by rw [own_some] at e; exact hk (Option.some.inj e)))) (ok' := fun _ => True) (fun _ _ => trivial))
  clear hr hx hg HRa HRb HBq
  refine last_ (i := 9) (N := none) #[true, true, true, true, true, true, true, true, true, true, false, false] rfl rfl (one_of HT_.out (by kernel_rfl)) (by decide) (fun K hK => ?_)
  have HNz := Aside0.mk (NdB.below HN1.out HBz.out)
  have k3 := blk_cell HNz.out 1
  have kf := blk_frozen HNz.out 1
  obtain ⟨wu, hwu⟩ : ∃ wu, wu = wz.setCell ⟨b, 1, none⟩ (.slice E1 n.f1.length e1) := ⟨_, rfl⟩
  have HWU := Aside0.mk hwu
  refine skip_ (w1 := wu) (by rfl) rfl ?_ ?_
  · (go_simp <;> first | rfl | (rw [hwu]; rfl) | (subst hwu; rfl))
  clear k3 kf hwu hHeld
  have HNu := Aside0.mk (show NdB wu b [.bool n.f0, .slice E1 n.f1.length e1, .slice A2 n.f2.length c2, .int .i64 n.f3, .int .i64 n.f4, .slice A5 n.f5.length c5, .int .i64 n.f6, .int .i64 n.f7, .int .i64 n.f8, .slice A9 n.f9.length c9] from by rw [HWU.out]; exact blk_set HNz.out 1 _)
  refine hK.out _ _ ?_
  clear hK K
  refine pure_ (i := 10) (N := some 12) (v := ?_) (a' := ?_) #[true, true, true, true, true, true, true, true, true, true, true, false] rfl rfl (any_of HT_.out (by kernel_rfl)) (fun _ _ _ h => h) (Or.inl ⟨by rfl, ?_⟩) ?_ ?_
  rotate_left
  · intro w'
    go_simp
    with_reducible rfl
  rotate_left
  · simp only [Act.put, List.setIfInBounds_toArray, List.set_cons_zero, List.set_cons_succ, i64_w, i32_w]
    rfl
  refine last_ (i := 11) (N := none) #[true, true, true, true, true, true, true, true, true, true, true, true] rfl rfl (one_of HT_.out (by kernel_rfl)) (by decide) (fun K hK => ?_)
  have k3 := blk_cell HNu.out 2
  have kf := blk_frozen HNu.out 2
  obtain ⟨w2, hwv⟩ : ∃ wv, wv = wu.setCell ⟨b, 2, none⟩ (.slice E2 n.f2.length e2) := ⟨_, rfl⟩
  have HWV := Aside0.mk hwv
  refine skip_ (w1 := w2) (by rfl) rfl ?_ ?_
  · (go_simp <;> first | rfl | (rw [hwv]; rfl) | (subst hwv; rfl))
  clear k3 kf hwv
  have HNva := Aside0.mk (show NdB w2 b [.bool n.f0, .slice E1 n.f1.length e1, .slice E2 n.f2.length e2, .int .i64 n.f3, .int .i64 n.f4, .slice A5 n.f5.length c5, .int .i64 n.f6, .int .i64 n.f7, .int .i64 n.f8, .slice A9 n.f9.length c9] from by rw [HWV.out]; exact blk_set HNu.out 2 _)
  refine hK.out _ _ ?_
  clear hK K
  refine done_ (done_of HT_.out (by kernel_rfl)) ?_
  have HVa := Aside0.mk (show BX w2 (fun k => W1.heap.size ≤ k ∧ k ≠ b) (.slice E1 n.f1.length e1) n.f1 from Kd.V_step (Kd.V_mono (Kd.R_V (base' := 0) (Kd.R_bound (Kd.R_types HR1.out HNz.out (by decide)))) (fun k hk => ⟨hk.2.1, hk.1.2⟩)) (fun k hk _ => by rw [HWV.out, HWU.out, Below.heap_setCell _ _ _ k hk.2, Below.heap_setCell _ _ _ k hk.2]))
  have HVb := Aside0.mk (show BX w2 (fun k => W1.heap.size ≤ k ∧ k ≠ b) (.slice E2 n.f2.length e2) n.f2 from Kd.V_step (Kd.V_mono (Kd.R_V (base' := 0) (Kd.R_bound (Kd.R_types HR2.out HNz.out (by decide)))) (fun k hk => ⟨hk.2.1, hk.1.2⟩)) (fun k hk _ => by rw [HWV.out, HWU.out, Below.heap_setCell _ _ _ k hk.2, Below.heap_setCell _ _ _ k hk.2]))
  have HBva := Aside0.mk (show Kept W1 w2 (fun k => k = b) from by rw [HWV.out, HWU.out]; exact ⟨by simpa using HBz.out.size, fun k hk hn => by rw [Below.heap_setCell _ _ _ k hn, Below.heap_setCell _ _ _ k hn]; exact HBz.out.block k hk⟩)
  have HBwa := Aside0.mk (show Below w.heap.size W1 w2 from by rw [HWV.out, HWU.out]; exact Below.setCell (Below.setCell (HBz.out.mono HLE1.out) HGE.out _) HGE.out _)
  have HB2 := Aside0.mk (show Below w.heap.size w w2 from HB1.out.trans HBwa.out)
  have HLE2 := Aside0.mk (show w.heap.size ≤ w2.heap.size from HB2.out.size)
  have H5C := Aside0.mk (show ∀ W, Below w2.heap.size w2 W → Kd.C (Kd.int .u8) W A5 n.f5.length n.f5 from fun W hb => (Kd.V_reads' (Kd.V_below (Kd.V_below HX5.out HB2.out) hb)).2.2)
  have H9C := Aside0.mk (show ∀ W, Below w2.heap.size w2 W → Kd.C (Kd.int .u8) W A9 n.f9.length n.f9 from fun W hb => (Kd.V_reads' (Kd.V_below (Kd.V_below HX9.out HB2.out) hb)).2.2)
  have HN2 := Aside0.mk HNva.out
  have HZ2 := Aside0.mk (show NdB w2 z zeroR from (HBva.out.2 z (blk_lt HZ1.out) (by have := HBE.out; omega)).trans HZ1.out)
  clear HNva hHeld H1C H2C HSOK HT_ HW_ HB0 HR1 HR2 HBz HNz HWU HNu HWV
  go_wp2_with fail
  have HSOK := Aside0.mk (show ∀ W, Below w2.heap.size w2 W → W.cell? ⟨b, 5, none⟩ = some (.slice A5 n.f5.length c5) ∧ W.cell? ⟨b, 9, none⟩ = some (.slice A9 n.f9.length c9) from fun W hb => ⟨blk_cell (NdB.below HN2.out hb) 5, blk_cell (NdB.below HN2.out hb) 9⟩)
  refine start_ (n := 12) (S := fun w' => w'.cell? ⟨b, 5, none⟩ = some (.slice A5 n.f5.length c5) ∧ w'.cell? ⟨b, 9, none⟩ = some (.slice A9 n.f9.length c9)) (ds := [9, 11]) #[false, false, false, false, false, false, false, false, false, false, false, false] (by kernel_rfl) rfl rfl (HSOK.out _ (below_drew (Below.refl _ _))) (fun hHeld => ?_); refine with_tabW rcopy_tab2 rcopy_bits2 (fun HT_ HW_ => ?_)
  have HB0 := Aside0.mk (show Below w2.heap.size w2 w2.drew from below_drew (Below.refl _ _))
  generalize hgw : w2.drew = w3 at HB0 hHeld ⊢
  clear hgw
  refine pure_ (i := 1) (N := some 14) (v := ?_) (a' := ?_) #[false, true, false, false, false, false, false, false, false, false, false, false] rfl rfl (any_of HT_.out (by kernel_rfl)) (fun _ _ _ h => h) (Or.inl ⟨by rfl, ?_⟩) ?_ ?_
  rotate_left
  · intro w'
    go_simp
    with_reducible rfl
  rotate_left
  · simp only [Act.put, List.setIfInBounds_toArray, List.set_cons_zero, List.set_cons_succ, i64_w, i32_w]
    rfl
  refine take_ (i := 2) (N := some 15) (v := ?_) (a' := ?_) #[false, true, true, false, false, false, false, false, false, false, false, false] rfl rfl (take_ofW HT_.out HW_.out (by kernel_rfl)) (fun _ _ _ h => h) (Or.inl ⟨by rfl, ?_⟩) hHeld ?_ ?_
  rotate_left
  · rintro w' ⟨s0, s1⟩
    go_simp
    with_reducible rfl
  rotate_left
  · simp only [Act.put, List.setIfInBounds_toArray, List.set_cons_zero, List.set_cons_succ, i64_w, i32_w]
    rfl
  refine pure_ (i := 5) (N := some 18) (v := ?_) (a' := ?_) #[false, true, true, false, false, true, false, false, false, false, false, false] rfl rfl (any_of HT_.out (by kernel_rfl)) (fun _ _ _ h => h) (Or.inl ⟨by rfl, ?_⟩) ?_ ?_
  rotate_left
  · intro w'
    go_simp
    with_reducible rfl
  rotate_left
  · simp only [Act.put, List.setIfInBounds_toArray, List.set_cons_zero, List.set_cons_succ, i64_w, i32_w]
    rfl
  refine take_ (i := 6) (N := some 19) (v := ?_) (a' := ?_) #[false, true, true, false, false, true, true, false, false, false, false, false] rfl rfl (take_ofW HT_.out HW_.out (by kernel_rfl)) (fun _ _ _ h => h) (Or.inl ⟨by rfl, ?_⟩) hHeld ?_ ?_
  rotate_left
  · rintro w' ⟨s0, s1⟩
    go_simp
    with_reducible rfl
  rotate_left
  · simp only [Act.put, List.setIfInBounds_toArray, List.set_cons_zero, List.set_cons_succ, i64_w, i32_w]
    rfl
  refine join_ (σ := Nat × Option Addr × Nat × Nat) 4 #[true, true, true, true, true, true, true, false, true, false, false, false] (fun s_ => [(13, .slice (some ⟨s_.1, 0, none⟩) 0 0), (16, .slice s_.2.1 n.f5.length s_.2.2.1), (17, .slice (some ⟨s_.2.2.2, 0, none⟩) 0 0), (21, .pointer (some ⟨b, 5, none⟩))]) (fun s_ w' => Kd.R (Kd.int .u8) 5 w' w2.heap.size (fun k => k ≠ s_.2.2.2) (.slice s_.2.1 n.f5.length s_.2.2.1) n.f5 ∧ Kd.R (Kd.int .u8) 5 w' w2.heap.size (fun _ => True) (.slice (some ⟨s_.2.2.2, 0, none⟩) 0 0) [] ∧ Below w2.heap.size w2 w') ?_ ?_
  rotate_left
  · intro hCont
    refine two_ (i := 0) (j := 4) (Ni := some 13) (Nj := some 17) #[true, true, true, false, false, true, true, false, false, false, false, false] #[false, true, true, false, true, true, true, false, false, false, false, false] rfl rfl rfl rfl (two_of HT_.out (by kernel_rfl)) (by decide) (by decide) (fun K hK => ?_) (fun K hK => ?_)
    · skip
      refine value_ (v := .slice (some ⟨w3.heap.size, 0, none⟩) 0 0) (w1 := w3.alloc (.cells #[] 5)) (by rfl) rfl ?_ ?_
      · (go_simp <;> first | rfl | done)
      obtain ⟨g1, wa, hal, hsz, hr1⟩ := lit0_new w3 w2.heap.size HB0.out.size
      rw [hal.1, hal.2]
      clear hal
      refine hK.out _ _ (HSOK.out _ (HB0.out.trans (hsz.2.2.mono HB0.out.size))) (fun hHeld => ?_)
      clear hK K
      refine norm_ (a' := ?_) ?_ ?_
      rotate_left
      · show Act.put _ (some 13) _ = _
        simp only [Act.put, List.setIfInBounds_toArray, List.set_cons_zero, List.set_cons_succ, i64_w, i32_w]
        rfl
      have HBa := Aside0.mk (HB0.out.trans (hsz.2.2.mono HB0.out.size))
      have HSa := Aside0.mk hsz
      have HR1 := Aside0.mk hr1
      clear hr1 hsz
      refine two_ (i := 3) (j := 4) (Ni := some 16) (Nj := some 17) #[true, true, true, true, false, true, true, false, false, false, false, false] #[true, true, true, false, true, true, true, false, false, false, false, false] rfl rfl rfl rfl (two_of HT_.out (by kernel_rfl)) (by decide) (by decide) (fun K hK => ?_) (fun K hK => ?_)
      · skip
        refine app8_step w2.heap.size (by rfl) (.tmp 13) (.tmp 15) rfl rfl (.slice (some ⟨g1, 0, none⟩) 0 0) A5 n.f5.length c5 (fun _ => True) rfl rfl n.f5 HR1.out (H5C.out _ HBa.out) (fun _ _ => trivial) HBa.out.size (by have := HLEN.out; omega) ?_
        intro B1 d1 wb hr hx hg
        refine hK.out _ _ (HSOK.out _ (HBa.out.trans hx)) (fun hHeld => ?_)
        clear hK K
        refine norm_ (a' := ?_) ?_ ?_
        rotate_left
        · show Act.put _ (some 16) _ = _
          simp only [Act.put, List.setIfInBounds_toArray, List.set_cons_zero, List.set_cons_succ, i64_w, i32_w]
          rfl
        have HBb := Aside0.mk (HBa.out.trans hx)
        have HRc := Aside0.mk hr
        clear hr hx hg
        refine pure_ (i := 8) (N := some 21) (v := ?_) (a' := ?_) #[true, true, true, true, false, true, true, false, true, false, false, false] rfl rfl (any_of HT_.out (by kernel_rfl)) (fun _ _ _ h => h) (Or.inl ⟨by rfl, ?_⟩) ?_ ?_
        rotate_left
        · intro w'
          go_simp
          with_reducible rfl
        rotate_left
        · simp only [Act.put, List.setIfInBounds_toArray, List.set_cons_zero, List.set_cons_succ, i64_w, i32_w]
          rfl
        refine one_ (i := 4) (N := some 17) #[true, true, true, true, true, true, true, false, true, false, false, false] rfl rfl (one_of HT_.out (by kernel_rfl)) (by decide) (fun K hK => ?_)
        refine value_ (v := .slice (some ⟨wb.heap.size, 0, none⟩) 0 0) (w1 := wb.alloc (.cells #[] 5)) (by rfl) rfl ?_ ?_
        · (go_simp <;> first | rfl | done)
        obtain ⟨g2, wc, hal, hsz, hr2⟩ := lit0_new wb w2.heap.size HBb.out.size
        rw [hal.1, hal.2]
        clear hal
        refine hK.out _ _ (HSOK.out _ (HBb.out.trans (hsz.2.2.mono HBb.out.size))) (fun hHeld => ?_)
        clear hK K
        refine norm_ (a' := ?_) ?_ ?_
        rotate_left
        · show Act.put _ (some 17) _ = _
          simp only [Act.put, List.setIfInBounds_toArray, List.set_cons_zero, List.set_cons_succ, i64_w, i32_w]
          rfl
        have HBq := Aside0.mk (HBb.out.trans (hsz.2.2.mono HBb.out.size))
        have HRb := Aside0.mk hr2
        have HRa := Aside0.mk (Kd.R_mono (Kd.R_below (Kd.R_bound HRc.out) hsz.2.2) (ok' := fun k => k ≠ g2) (fun k hk => by have h1 := hk.2.1; have h2 := hsz.1; omega))
        clear hr2 hsz HRc
        exact norm_ (by simp only [putAll, Act.put, List.setIfInBounds_toArray, List.set_cons_zero, List.set_cons_succ]) (hCont (g1, B1, d1, g2) _ ⟨HRa.out, HRb.out, HBq.out⟩)
      · skip
        refine value_ (v := .slice (some ⟨wa.heap.size, 0, none⟩) 0 0) (w1 := wa.alloc (.cells #[] 5)) (by rfl) rfl ?_ ?_
        · (go_simp <;> first | rfl | done)
        obtain ⟨g2, wb, hal, hsz, hr2⟩ := lit0_new wa w2.heap.size HBa.out.size
        rw [hal.1, hal.2]
        clear hal
        refine hK.out _ _ (HSOK.out _ (HBa.out.trans (hsz.2.2.mono HBa.out.size))) (fun hHeld => ?_)
        clear hK K
        refine norm_ (a' := ?_) ?_ ?_
        rotate_left
        · show Act.put _ (some 17) _ = _
          simp only [Act.put, List.setIfInBounds_toArray, List.set_cons_zero, List.set_cons_succ, i64_w, i32_w]
          rfl
        have HBb := Aside0.mk (HBa.out.trans (hsz.2.2.mono HBa.out.size))
        have HRd := Aside0.mk hr2
        have HSb := Aside0.mk hsz
        have HR1b := Aside0.mk (Kd.R_reok (ok := fun k => k ≠ g2) rfl (Kd.R_below HR1.out hsz.2.2) (fun k e => by rw [own_some] at e; have e := Option.some.inj e; have h1 := HSa.out.2.1; have h2 := hsz.1; omega))
        clear hr2 hsz
        refine one_ (i := 3) (N := some 16) #[true, true, true, true, true, true, true, false, false, false, false, false] rfl rfl (one_of HT_.out (by kernel_rfl)) (by decide) (fun K hK => ?_)
        refine app8_step w2.heap.size (by rfl) (.tmp 13) (.tmp 15) rfl rfl (.slice (some ⟨g1, 0, none⟩) 0 0) A5 n.f5.length c5 (fun k => k ≠ g2) rfl rfl n.f5 HR1b.out (H5C.out _ HBb.out) (fun k hk => by have := HSb.out.2.1; omega) HBb.out.size (by have := HLEN.out; omega) ?_
        intro B1 d1 wc hr hx hg
        refine hK.out _ _ (HSOK.out _ (HBb.out.trans hx)) (fun hHeld => ?_)
        clear hK K
        refine norm_ (a' := ?_) ?_ ?_
        rotate_left
        · show Act.put _ (some 16) _ = _
          simp only [Act.put, List.setIfInBounds_toArray, List.set_cons_zero, List.set_cons_succ, i64_w, i32_w]
          rfl
        have HBq := Aside0.mk (HBb.out.trans hx)
        have HRa := Aside0.mk hr
        have HRb := Aside0.mk (Kd.R_mono (Kd.R_step (Kd.R_reok (ok := fun k => k = g2) rfl HRd.out (fun k e => by rw [own_some] at e; exact (Option.some.inj e).symm)) (fun k hk hl => hg.block k hl (fun e => by rw [own_some] at e; have e := Option.some.inj e; have h1 := HSa.out.2.1; have h2 := HSb.out.1; omega))) (fun _ _ => trivial))
        clear hr hx hg
        refine pure_ (i := 8) (N := some 21) (v := ?_) (a' := ?_) #[true, true, true, true, true, true, true, false, true, false, false, false] rfl rfl (any_of HT_.out (by kernel_rfl)) (fun _ _ _ h => h) (Or.inl ⟨by rfl, ?_⟩) ?_ ?_
        rotate_left
        · intro w'
          go_simp
          with_reducible rfl
        rotate_left
        · simp only [Act.put, List.setIfInBounds_toArray, List.set_cons_zero, List.set_cons_succ, i64_w, i32_w]
          rfl
        exact norm_ (by simp only [putAll, Act.put, List.setIfInBounds_toArray, List.set_cons_zero, List.set_cons_succ]) (hCont (g1, B1, d1, g2) _ ⟨HRa.out, HRb.out, HBq.out⟩)
    · skip
      refine value_ (v := .slice (some ⟨w3.heap.size, 0, none⟩) 0 0) (w1 := w3.alloc (.cells #[] 5)) (by rfl) rfl ?_ ?_
      · (go_simp <;> first | rfl | done)
      obtain ⟨g2, wa, hal, hsz, hr2⟩ := lit0_new w3 w2.heap.size HB0.out.size
      rw [hal.1, hal.2]
      clear hal
      refine hK.out _ _ (HSOK.out _ (HB0.out.trans (hsz.2.2.mono HB0.out.size))) (fun hHeld => ?_)
      clear hK K
      refine norm_ (a' := ?_) ?_ ?_
      rotate_left
      · show Act.put _ (some 17) _ = _
        simp only [Act.put, List.setIfInBounds_toArray, List.set_cons_zero, List.set_cons_succ, i64_w, i32_w]
        rfl
      have HBa := Aside0.mk (HB0.out.trans (hsz.2.2.mono HB0.out.size))
      have HSa := Aside0.mk hsz
      have HR2 := Aside0.mk hr2
      clear hr2 hsz
      refine one_ (i := 0) (N := some 13) #[true, true, true, false, true, true, true, false, false, false, false, false] rfl rfl (one_of HT_.out (by kernel_rfl)) (by decide) (fun K hK => ?_)
      refine value_ (v := .slice (some ⟨wa.heap.size, 0, none⟩) 0 0) (w1 := wa.alloc (.cells #[] 5)) (by rfl) rfl ?_ ?_
      · (go_simp <;> first | rfl | done)
      obtain ⟨g1, wb, hal, hsz, hr1⟩ := lit0_new wa w2.heap.size HBa.out.size
      rw [hal.1, hal.2]
      clear hal
      refine hK.out _ _ (HSOK.out _ (HBa.out.trans (hsz.2.2.mono HBa.out.size))) (fun hHeld => ?_)
      clear hK K
      refine norm_ (a' := ?_) ?_ ?_
      rotate_left
      · show Act.put _ (some 13) _ = _
        simp only [Act.put, List.setIfInBounds_toArray, List.set_cons_zero, List.set_cons_succ, i64_w, i32_w]
        rfl
      have HBb := Aside0.mk (HBa.out.trans (hsz.2.2.mono HBa.out.size))
      have HSb := Aside0.mk hsz
      have HR1b := Aside0.mk (Kd.R_reok (ok := fun k => k ≠ g2) rfl hr1 (fun k e => by rw [own_some] at e; have e := Option.some.inj e; have h1 := HSa.out.2.1; have h2 := hsz.1; omega))
      have HRd := Aside0.mk (Kd.R_below HR2.out hsz.2.2)
      clear hr1 hsz
      refine one_ (i := 3) (N := some 16) #[true, true, true, true, true, true, true, false, false, false, false, false] rfl rfl (one_of HT_.out (by kernel_rfl)) (by decide) (fun K hK => ?_)
      refine app8_step w2.heap.size (by rfl) (.tmp 13) (.tmp 15) rfl rfl (.slice (some ⟨g1, 0, none⟩) 0 0) A5 n.f5.length c5 (fun k => k ≠ g2) rfl rfl n.f5 HR1b.out (H5C.out _ HBb.out) (fun k hk => by have := HSa.out.2.1; have := HSb.out.2.1; have := HSb.out.1; omega) HBb.out.size (by have := HLEN.out; omega) ?_
      intro B1 d1 wc hr hx hg
      refine hK.out _ _ (HSOK.out _ (HBb.out.trans hx)) (fun hHeld => ?_)
      clear hK K
      refine norm_ (a' := ?_) ?_ ?_
      rotate_left
      · show Act.put _ (some 16) _ = _
        simp only [Act.put, List.setIfInBounds_toArray, List.set_cons_zero, List.set_cons_succ, i64_w, i32_w]
        rfl
      have HBq := Aside0.mk (HBb.out.trans hx)
      have HRa := Aside0.mk hr
      have HRb := Aside0.mk (Kd.R_mono (Kd.R_step (Kd.R_reok (ok := fun k => k = g2) rfl HRd.out (fun k e => by rw [own_some] at e; exact (Option.some.inj e).symm)) (fun k hk hl => hg.block k hl (fun e => by rw [own_some] at e; have e := Option.some.inj e; have h1 := HSa.out.2.1; have h2 := HSb.out.1; omega))) (fun _ _ => trivial))
      clear hr hx hg
      refine pure_ (i := 8) (N := some 21) (v := ?_) (a' := ?_) #[true, true, true, true, true, true, true, false, true, false, false, false] rfl rfl (any_of HT_.out (by kernel_rfl)) (fun _ _ _ h => h) (Or.inl ⟨by rfl, ?_⟩) ?_ ?_
      rotate_left
      · intro w'
        go_simp
        with_reducible rfl
      rotate_left
      · simp only [Act.put, List.setIfInBounds_toArray, List.set_cons_zero, List.set_cons_succ, i64_w, i32_w]
        rfl
      exact norm_ (by simp only [putAll, Act.put, List.setIfInBounds_toArray, List.set_cons_zero, List.set_cons_succ]) (hCont (g1, B1, d1, g2) _ ⟨HRa.out, HRb.out, HBq.out⟩)
  rintro ⟨g1, B1, d1, g2⟩ wq ⟨hra, hrb, hbq⟩
  have hHeld := HSOK.out _ hbq
  have HRa := Aside0.mk hra
  have HRb := Aside0.mk hrb
  have HBq := Aside0.mk hbq
  clear hra hrb hbq
  refine norm_ (a' := ?_) ?_ ?_
  rotate_left
  · simp only [putAll, Act.put, List.setIfInBounds_toArray, List.set_cons_zero, List.set_cons_succ]
    rfl
  refine one_ (i := 7) (N := some 20) #[true, true, true, true, true, true, true, true, true, false, false, false] rfl rfl (one_of HT_.out (by kernel_rfl)) (by decide) (fun K hK => ?_)
  refine app8_step w2.heap.size (by rfl) (.tmp 17) (.tmp 19) rfl rfl (.slice (some ⟨g2, 0, none⟩) 0 0) A9 n.f9.length c9 (fun _ => True) rfl rfl n.f9 HRb.out (H9C.out _ HBq.out) (fun _ _ => trivial) HBq.out.size (by have := HLEN.out; omega) ?_
  intro B2 d2 wz hr hx hg
  refine hK.out _ _ (HSOK.out _ (HBq.out.trans hx)) (fun hHeld => ?_)
  clear hK K
  refine norm_ (a' := ?_) ?_ ?_
  rotate_left
  · show Act.put _ (some 20) _ = _
    simp only [Act.put, List.setIfInBounds_toArray, List.set_cons_zero, List.set_cons_succ, i64_w, i32_w]
    rfl
  have HBz := Aside0.mk (HBq.out.trans hx)
  have HR2 := Aside0.mk hr
  have HR1 := Aside0.mk (Kd.R_mono (Kd.R_step HRa.out (fun k hk hl => hg.block k hl (fun e => by rw [own_some] at e; exact hk (Option.some.inj e)))) (ok' := fun _ => True) (fun _ _ => trivial))
  clear hr hx hg HRa HRb HBq
  refine last_ (i := 9) (N := none) #[true, true, true, true, true, true, true, true, true, true, false, false] rfl rfl (one_of HT_.out (by kernel_rfl)) (by decide) (fun K hK => ?_)
  have HNz := Aside0.mk (NdB.below HN2.out HBz.out)
  have k3 := blk_cell HNz.out 5
  have kf := blk_frozen HNz.out 5
  obtain ⟨wu, hwu⟩ : ∃ wu, wu = wz.setCell ⟨b, 5, none⟩ (.slice B1 n.f5.length d1) := ⟨_, rfl⟩
  have HWU := Aside0.mk hwu
  refine skip_ (w1 := wu) (by rfl) rfl ?_ ?_
  · (go_simp <;> first | rfl | (rw [hwu]; rfl) | (subst hwu; rfl))
  clear k3 kf hwu hHeld
  have HNu := Aside0.mk (show NdB wu b [.bool n.f0, .slice E1 n.f1.length e1, .slice E2 n.f2.length e2, .int .i64 n.f3, .int .i64 n.f4, .slice B1 n.f5.length d1, .int .i64 n.f6, .int .i64 n.f7, .int .i64 n.f8, .slice A9 n.f9.length c9] from by rw [HWU.out]; exact blk_set HNz.out 5 _)
  refine hK.out _ _ ?_
  clear hK K
  refine pure_ (i := 10) (N := some 22) (v := ?_) (a' := ?_) #[true, true, true, true, true, true, true, true, true, true, true, false] rfl rfl (any_of HT_.out (by kernel_rfl)) (fun _ _ _ h => h) (Or.inl ⟨by rfl, ?_⟩) ?_ ?_
  rotate_left
  · intro w'
    go_simp
    with_reducible rfl
  rotate_left
  · simp only [Act.put, List.setIfInBounds_toArray, List.set_cons_zero, List.set_cons_succ, i64_w, i32_w]
    rfl
  refine last_ (i := 11) (N := none) #[true, true, true, true, true, true, true, true, true, true, true, true] rfl rfl (one_of HT_.out (by kernel_rfl)) (by decide) (fun K hK => ?_)
  have k3 := blk_cell HNu.out 9
  have kf := blk_frozen HNu.out 9
  obtain ⟨w4, hwv⟩ : ∃ wv, wv = wu.setCell ⟨b, 9, none⟩ (.slice B2 n.f9.length d2) := ⟨_, rfl⟩
  have HWV := Aside0.mk hwv
  refine skip_ (w1 := w4) (by rfl) rfl ?_ ?_
  · (go_simp <;> first | rfl | (rw [hwv]; rfl) | (subst hwv; rfl))
  clear k3 kf hwv
  have HNv := Aside0.mk (show NdB w4 b [.bool n.f0, .slice E1 n.f1.length e1, .slice E2 n.f2.length e2, .int .i64 n.f3, .int .i64 n.f4, .slice B1 n.f5.length d1, .int .i64 n.f6, .int .i64 n.f7, .int .i64 n.f8, .slice B2 n.f9.length d2] from by rw [HWV.out]; exact blk_set HNu.out 9 _)
  refine hK.out _ _ ?_
  clear hK K
  refine done_ (done_of HT_.out (by kernel_rfl)) ?_
  have HV1 := Aside0.mk (show BX w4 (fun k => w2.heap.size ≤ k ∧ k ≠ b) (.slice B1 n.f5.length d1) n.f5 from Kd.V_step (Kd.V_mono (Kd.R_V (base' := 0) (Kd.R_bound (Kd.R_types HR1.out HNz.out (by decide)))) (fun k hk => ⟨hk.2.1, hk.1.2⟩)) (fun k hk _ => by rw [HWV.out, HWU.out, Below.heap_setCell _ _ _ k hk.2, Below.heap_setCell _ _ _ k hk.2]))
  have HV2 := Aside0.mk (show BX w4 (fun k => w2.heap.size ≤ k ∧ k ≠ b) (.slice B2 n.f9.length d2) n.f9 from Kd.V_step (Kd.V_mono (Kd.R_V (base' := 0) (Kd.R_bound (Kd.R_types HR2.out HNz.out (by decide)))) (fun k hk => ⟨hk.2.1, hk.1.2⟩)) (fun k hk _ => by rw [HWV.out, HWU.out, Below.heap_setCell _ _ _ k hk.2, Below.heap_setCell _ _ _ k hk.2]))
  have HBv := Aside0.mk (show Kept w2 w4 (fun k => k = b) from by rw [HWV.out, HWU.out]; exact ⟨by simpa using HBz.out.size, fun k hk hn => by rw [Below.heap_setCell _ _ _ k hn, Below.heap_setCell _ _ _ k hn]; exact HBz.out.block k hk⟩)
  have HBw := Aside0.mk (show Below w.heap.size w2 w4 from by rw [HWV.out, HWU.out]; exact Below.setCell (Below.setCell (HBz.out.mono HLE2.out) HGE.out _) HGE.out _)
  have HB4 := Aside0.mk (show Below w.heap.size w w4 from HB2.out.trans HBw.out)
  have HZ4 := Aside0.mk (show NdB w4 z zeroR from (HBv.out.2 z (blk_lt HZ2.out) (by have := HBE.out; omega)).trans HZ2.out)
  have HN4 := Aside0.mk HNv.out
  have HVa4 := Aside0.mk (show BX w4 (fun k => W1.heap.size ≤ k ∧ k ≠ b) (.slice E1 n.f1.length e1) n.f1 from Kd.V_mono (Kd.V_step (Kd.V_bound HVa.out) (fun k hk hl => HBv.out.2 k hl hk.1.2)) (fun k hk => hk.1))
  have HVb4 := Aside0.mk (show BX w4 (fun k => W1.heap.size ≤ k ∧ k ≠ b) (.slice E2 n.f2.length e2) n.f2 from Kd.V_mono (Kd.V_step (Kd.V_bound HVb.out) (fun k hk hl => HBv.out.2 k hl hk.1.2)) (fun k hk => hk.1))
  have HZL := Aside0.mk (show z < W1.heap.size from blk_lt HZ1.out)
  clear HNv hHeld H5C H9C HSOK HT_ HW_ HB0 HR1 HR2 HBz HNz HWU HNu HWV
  obtain ⟨m0, m1, m2, m3, m4, m5, m6, m7, m8, m9⟩ := NdB.cells HN4.out
  obtain ⟨z0, z1, z2, z3, z4, z5, z6, z7, z8, z9⟩ := NdB.cells HZ4.out
  obtain ⟨f0, f1, f2, f3, f4, f5, f6, f7, f8, f9⟩ := HZ4.out.frozen
  go_wp2_with fail
  refine bodyPost_ret (results_copy _ z (putN_nd HZ4.out _ _ _ _ _ _ _ _ _ _) _ rfl) rfl ⟨putN_below HB4.out (by have := HBE.out; omega) _ _ _ _ _ _ _ _ _ _, E1, E2, B1, B2, e1, e2, d1, d2, rfl, ?_, ?_, ?_, ?_⟩
  · exact Kd.V_mono (Kd.V_step HVa4.out (fun k hk _ => putN_far (by have := HZL.out; omega) _ _ _ _ _ _ _ _ _ _)) (fun k hk => by have := HLE1.out; omega)
  · exact Kd.V_mono (Kd.V_step HVb4.out (fun k hk _ => putN_far (by have := HZL.out; omega) _ _ _ _ _ _ _ _ _ _)) (fun k hk => by have := HLE1.out; omega)
  · exact Kd.V_mono (Kd.V_step HV1.out (fun k hk _ => putN_far (by have := HZL.out; have := HBva.out.1; omega) _ _ _ _ _ _ _ _ _ _)) (fun k hk => by have := HLE2.out; omega)
  · exact Kd.V_mono (Kd.V_step HV2.out (fun k hk _ => putN_far (by have := HZL.out; have := HBva.out.1; omega) _ _ _ _ _ _ _ _ _ _)) (fun k hk => by have := HLE2.out; omega)
end Go.Proofs.YtdeneoknjeegbaaDoor.P
end
section
set_option linter.unusedVariables false
set_option linter.unusedSimpArgs false
namespace Go.Proofs.YtdeneoknjeegbaaDoor.P
open Go.RowKit Go.Proofs.YtdeneoknjeegbaaDoor.Pure Go.Proofs.YtdeneoknjeegbaaDoorW.PrintWords Go.Proofs.YtdeneoknjeegbaaDoorW.PrintLast Go.Proofs.YtdeneoknjeegbaaDoorW.PrintMore
set_option maxRecDepth 100000 in
theorem results_nodeR (W : World) (g : Nat) {y0 y1 y2 y3 y4 y5 y6 y7 y8 y9 : Value} (b : Bool) (h : NdB W g [y0, y1, y2, y3, y4, y5, y6, y7, y8, y9]) (tm : Array Value) (h4 : tm[4]?.getD undef = .pointer (some ⟨g, 0, none⟩)) (h5 : tm[5]?.getD undef = .bool b) : (results Tryd.f13 tm).run Tryd.prog W = .ok (.tuple #[.agg #[y0, y1, y2, y3, y4, y5, y6, y7, y8, y9], .bool b]) W := by
  obtain ⟨c0, c1, c2, c3, c4, c5, c6, c7, c8, c9⟩ := h.cells
  simp [results, Tryd.results13, go_sem, h4, h5, c0, c1, c2, c3, c4, c5, c6, c7, c8, c9]
theorem nodeAt_some {cs : Cs} {i : Int} {n : Nd} (h : nodeAt cs i = some n) : ∃ k : Nat, i = (k : Int) ∧ cs[k]? = some (some n) := by
  have h1 := nodeAt_lt (cs := cs) (i := i) (by rw [h]; rfl)
  refine ⟨i.toNat, by omega, ?_⟩
  unfold nodeAt at h
  rw [if_pos h1.1, List.getElem?_eq_getElem h1.2] at h
  rw [List.getElem?_eq_getElem h1.2]
  exact congrArg some h
theorem RefM.rowAt {w : World} {base q : Nat} {size most : Int} {vl : Value} {X : Nat → Prop} {cs : Cs} (h : RefM w base q size most vl X cs) (k : Nat) (n : Nd) (hk : cs[k]? = some (some n)) : ∃ (g m c : Nat) (A1 A2 A5 A9 : Option Addr) (c1 c2 c5 c9 : Nat), vl = .slice (some ⟨g, 0, none⟩) m c ∧ k < m ∧ m = cs.length ∧
    BX w X (.slice A1 n.f1.length c1) n.f1 ∧ BX w X (.slice A2 n.f2.length c2) n.f2 ∧ BX w X (.slice A5 n.f5.length c5) n.f5 ∧ BX w X (.slice A9 n.f9.length c9) n.f9 ∧
    (w.cell? ⟨g, k * 10, none⟩ = some (.bool n.f0) ∧ w.cell? ⟨g, k * 10 + 1, none⟩ = some (.slice A1 n.f1.length c1) ∧ w.cell? ⟨g, k * 10 + 2, none⟩ = some (.slice A2 n.f2.length c2) ∧ w.cell? ⟨g, k * 10 + 3, none⟩ = some (.int .i64 n.f3) ∧ w.cell? ⟨g, k * 10 + 4, none⟩ = some (.int .i64 n.f4) ∧ w.cell? ⟨g, k * 10 + 5, none⟩ = some (.slice A5 n.f5.length c5) ∧ w.cell? ⟨g, k * 10 + 6, none⟩ = some (.int .i64 n.f6) ∧ w.cell? ⟨g, k * 10 + 7, none⟩ = some (.int .i64 n.f7) ∧ w.cell? ⟨g, k * 10 + 8, none⟩ = some (.int .i64 n.f8) ∧ w.cell? ⟨g, k * 10 + 9, none⟩ = some (.slice A9 n.f9.length c9)) := by
  obtain ⟨rows, hv⟩ := h.mem
  have hlt : k < cs.length := (List.getElem?_eq_some_iff.1 hk).1
  have hlen := hv.len
  have hro : rows[k]? = some (rows[k]'(by omega)) := List.getElem?_eq_getElem _
  obtain ⟨⟨A1, A2, A5, A9, c1, c2, c5, c9, hr, b1, b2, b5, b9⟩, _⟩ := hv.row k _ _ hk hro
  obtain ⟨_, g, c, e, hc⟩ := raw_row10 hv.cells k _ hro
  refine ⟨g, rows.length, c, A1, A2, A5, A9, c1, c2, c5, c9, e, by omega, hlen, b1, b2, b5, b9, hc 0 _ (by rw [hr]; rfl), hc 1 _ (by rw [hr]; rfl), hc 2 _ (by rw [hr]; rfl), hc 3 _ (by rw [hr]; rfl), hc 4 _ (by rw [hr]; rfl), hc 5 _ (by rw [hr]; rfl), hc 6 _ (by rw [hr]; rfl), hc 7 _ (by rw [hr]; rfl), hc 8 _ (by rw [hr]; rfl), hc 9 _ (by rw [hr]; rfl)⟩
theorem RefM.qblk {w : World} {base q : Nat} {size most : Int} {vl : Value} {X : Nat → Prop} {cs : Cs} (h : RefM w base q size most vl X cs) : QBlk w q size most vl := by
  obtain ⟨rows, hv⟩ := h.mem
  exact hv.blk
set_option maxHeartbeats 8000000 in
set_option maxRecDepth 100000 in
theorem rnode_calls {w : World} {base q : Nat} {size most : Int} {vl : Value} {X : Nat → Prop} {cs : Cs} (h : RefM w base q size most vl X cs) (i : Int) (hlen : ∀ n, nodeAt cs i = some n → NdLen n) :
    Calls Tryd.prog 13 #[.pointer (some ⟨q, 0, none⟩), .int .i64 i] w fun e w' => NodeV w' (fun k => w.heap.size ≤ k) (nodeAt cs i) e ∧ Below w.heap.size w w' := by
  have HM := Aside0.mk h
  have HLEN := Aside0.mk hlen
  clear h hlen
  go_enter Tryd.func13, Tryd.ntmps13
  go_wp2_with fail
  obtain ⟨W1, hW1⟩ : ∃ W1, W1 = w.alloc (.cells zeroR.toArray 39) := ⟨_, rfl⟩
  change Calls _ _ _ (w.alloc (.cells zeroR.toArray 39)) _
  rw [← hW1]
  have hB1 : Below w.heap.size w W1 := by rw [hW1]; exact below_alloc (Below.refl _ _) _
  have h4 : NdB W1 w.heap.size zeroR := by rw [hW1]; exact heap_alloc_new w _
  have HM1 := Aside0.mk (HM.out.below hB1)
  have HB1 := Aside0.mk hB1
  obtain ⟨z, hz⟩ : ∃ z, z = w.heap.size := ⟨_, rfl⟩
  rw [← hz] at h4
  rw [← hz]
  have HZ := Aside0.mk hz
  have H4 := Aside0.mk h4
  clear hz h4 hB1 hW1
  refine (rthere_calls HM1.out i).mono ?_
  rintro e w' ⟨rfl, rfl⟩
  cases ho : nodeAt cs i with
  | none =>
    obtain ⟨z0, z1, z2, z3, z4, z5, z6, z7, z8, z9⟩ := NdB.cells H4.out
    obtain ⟨f0, f1, f2, f3, f4, f5, f6, f7, f8, f9⟩ := H4.out.frozen
    go_wp2_with fail
    refine bodyPost_ret (results_nodeR _ z false (putN_nd H4.out _ _ _ _ _ _ _ _ _ _) _ rfl rfl) rfl ⟨?_, putN_below HB1.out (by rw [HZ.out]; exact Nat.le_refl _) _ _ _ _ _ _ _ _ _ _⟩
    rw [ho]
    rfl
  | some n =>
    obtain ⟨k, rfl, hk⟩ := nodeAt_some ho
    obtain ⟨g, m, c, A1, A2, A5, A9, c1, c2, c5, c9, hvl, hkm, hmc, b1, b2, b5, b9, m0, m1, m2, m3, m4, m5, m6, m7, m8, m9⟩ := HM1.out.rowAt k n hk
    have hqb := HM1.out.qblk
    rw [hvl] at hqb
    obtain ⟨k0, k1, k2⟩ := hqb.cells
    have q1 : (k : Int) < (m : Int) := by omega
    have q2 : 0 ≤ (k : Int) := by omega
    have HX := Aside0.mk (And.intro b1 (And.intro b2 (And.intro b5 b9)))
    have HL := Aside0.mk (HLEN.out n ho)
    have HO := Aside0.mk ho
    clear b1 b2 b5 b9 hqb hvl hmc ho hk hkm
    go_wp2_with fail
    refine (rcopy_calls n HL.out A1 A2 A5 A9 c1 c2 c5 c9 HX.out.1 HX.out.2.1 HX.out.2.2.1 HX.out.2.2.2).mono ?_
    rintro e w2 ⟨hB2, E1, E2, E5, E9, e1, e2, e5, e9, rfl, h1, h2, h5, h9⟩
    have HB2 := Aside0.mk hB2
    have HF := Aside0.mk (And.intro h1 (And.intro h2 (And.intro h5 h9)))
    have HZ2 := Aside0.mk (NdB.below H4.out hB2)
    clear hB2 h1 h2 h5 h9 k0 k1 k2 m0 m1 m2 m3 m4 m5 m6 m7 m8 m9
    obtain ⟨z0, z1, z2, z3, z4, z5, z6, z7, z8, z9⟩ := NdB.cells HZ2.out
    obtain ⟨f0, f1, f2, f3, f4, f5, f6, f7, f8, f9⟩ := HZ2.out.frozen
    go_wp2_with fail
    have hzl : z < W1.heap.size := blk_lt H4.out
    have hs := HB1.out.size
    refine bodyPost_ret (results_nodeR _ z true (putN_nd HZ2.out _ _ _ _ _ _ _ _ _ _) _ rfl rfl) rfl ⟨?_, putN_below (HB1.out.trans (HB2.out.mono HB1.out.size)) (by rw [HZ.out]; exact Nat.le_refl _) _ _ _ _ _ _ _ _ _ _⟩
    rw [HO.out]
    have hY : ∀ (v : Value) (l : List Int), BX w2 (fun k => W1.heap.size ≤ k) v l → BX (putN w2 z (.bool n.f0) (.slice E1 n.f1.length e1) (.slice E2 n.f2.length e2) (.int .i64 n.f3) (.int .i64 n.f4) (.slice E5 n.f5.length e5) (.int .i64 n.f6) (.int .i64 n.f7) (.int .i64 n.f8) (.slice E9 n.f9.length e9)) (fun k => w.heap.size ≤ k) v l := fun v l hv =>
      Kd.V_mono (Kd.V_step hv (fun k hk _ => putN_far (by omega) _ _ _ _ _ _ _ _ _ _)) (fun k hk => by omega)
    exact ⟨E1, E2, E5, E9, e1, e2, e5, e9, rfl, hY _ _ HF.out.1, hY _ _ HF.out.2.1, hY _ _ HF.out.2.2.1, hY _ _ HF.out.2.2.2⟩
end Go.Proofs.YtdeneoknjeegbaaDoor.P
end
