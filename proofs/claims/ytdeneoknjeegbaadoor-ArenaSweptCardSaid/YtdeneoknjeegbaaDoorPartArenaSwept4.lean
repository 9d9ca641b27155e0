/- Lemmas of this claim, part 4. -/
import Derived.Test.YtdeneoknjeegbaaDoorPartArenaSwept3
import Derived.Test.YtdeneoknjeegbaaDoorPartArenaSwept2
section
set_option linter.unusedVariables false
set_option linter.unusedSimpArgs false
namespace Go.Proofs.YtdeneoknjeegbaaDoor.P
open Go.RowKit Go.Proofs.YtdeneoknjeegbaaDoorW.PrintWords Go.Proofs.YtdeneoknjeegbaaDoorW.PrintLast Go.Proofs.YtdeneoknjeegbaaDoorW.PrintMore
def push_T0 : Bool × List (List Nat × List Nat) := (true, [([], []), ([], []), ([1], [1]), ([2], [2]), ([], []), ([4], [4]), ([5], [5]), ([3, 6], [3, 6]), ([0, 0, 1, 2, 3, 4, 5, 6, 7], [0]), ([8, 7, 7, 0, 1, 2, 3, 4, 5, 6, 7], [7, 8])])
def push_B0 : List Nat := [0, 0, 2, 6, 0, 16, 48, 126, 255, 511]
theorem push_tab0 : rtab .any (opsOf Tryd.f139 0) = push_T0 := by kernel_rfl
theorem push_bits0 : waitsOk push_T0.2 push_B0 = true := by kernel_rfl
theorem assert_run (x : Int) (xt : TypeId) (w : World) : Sem.run Tryd.prog (Instr.typeAssert (.iface 3 (.int .i64 x)) xt 3 false) w = .ok (.int .i64 x) w := by kernel_rfl
theorem ABlk.grownI {w w1 : World} {p base : Nat} {size room : Int} {vc vf v : Value} {l : List Int} (h : ABlk w p size room vc vf) (hR : FreeR w base v l) (hg : w.grownBy w1 v.ownBlock) : ABlk w1 p size room vc vf :=
  (hg.block p h.lt (Kd.R_ne hR h (by decide))).trans h
set_option maxHeartbeats 4000000 in
set_option maxRecDepth 100000 in
theorem pushm_calls {w : World} {p base : Nat} {size room : Int} {vc vf : Value} {l : List Int} (h : ABlk w p size room vc vf) (hR : FreeR w base vf l) (hb : base ≤ w.heap.size) (x : Int) (hl : l.length < 4294967296) :
    Calls Tryd.prog 139 #[.pointer (some ⟨p, 3, none⟩), .iface 3 (.int .i64 x)] w fun e w' => e = .returned (.tuple #[]) ∧ ∃ v1, ABlk w' p size room vc v1 ∧ FreeR w' base v1 (l ++ [x]) ∧ (v1.ownBlock = vf.ownBlock ∨ ∃ b, v1.ownBlock = some b ∧ w.heap.size ≤ b) ∧ KeepBut w w' p vf.ownBlock ∧ (base ≤ p → Below base w w') := by
  obtain ⟨A, c, rfl⟩ := Kd.R_slice hR
  have hb1 := below_drew (Below.refl w.heap.size w)
  have HBk := Aside0.mk (show ABlk w.drew p size room vc (.slice A l.length c) from h.below hb1)
  have HR := Aside0.mk (show FreeR w.drew base (.slice A l.length c) l from Kd.R_below hR hb1)
  have HB1 := Aside0.mk (show Below w.heap.size w w.drew from hb1)
  have HBS := Aside0.mk (show base ≤ w.drew.heap.size from Nat.le_trans hb hb1.size)
  have HBS0 := Aside0.mk hb
  have HL := Aside0.mk hl
  have HC := Aside0.mk (show w.drew.cell? ⟨p, 3, none⟩ = some (.slice A l.length c) from HBk.out.cells.2.2.2)
  clear h hR hb hl hb1
  go_enter Tryd.func139, Tryd.ntmps139
  go_wp2_with fail
  refine start_ (n := 10) (S := fun w' => w'.cell? ⟨p, 3, none⟩ = some (.slice A l.length c)) (ds := [9]) #[false, false, false, false, false, false, false, false, false, false] (by kernel_rfl) rfl rfl HC.out (fun hHeld => ?_); refine with_tabW push_tab0 push_bits0 (fun HT_ HW_ => ?_)
  generalize w.drew = w1 at HBk HR HB1 HBS HC hHeld ⊢
  refine pure_ (i := 0) (N := some 4) (v := ?_) (a' := ?_) #[true, false, false, false, false, false, false, false, false, false] rfl rfl (any_of HT_.out (by kernel_rfl)) (fun _ _ _ h => h) (Or.inl ⟨by rfl, ?_⟩) ?_ ?_
  rotate_left
  · intro w'
    go_simp
    with_reducible rfl
  rotate_left
  · simp only [Act.put, List.setIfInBounds_toArray, List.set_cons_zero, List.set_cons_succ, i64_w, i32_w]
    rfl
  refine pure_ (i := 1) (N := some 5) (v := ?_) (a' := ?_) #[true, true, false, false, false, false, false, false, false, false] rfl rfl (any_of HT_.out (by kernel_rfl)) (fun _ _ _ h => h) (Or.inl ⟨by rfl, ?_⟩) ?_ ?_
  rotate_left
  · intro w'
    go_simp
    with_reducible rfl
  rotate_left
  · simp only [Act.put, List.setIfInBounds_toArray, List.set_cons_zero, List.set_cons_succ, i64_w, i32_w]
    rfl
  refine pure_ (i := 2) (N := some 6) (v := ?_) (a' := ?_) #[true, true, true, false, false, false, false, false, false, false] rfl rfl (any_of HT_.out (by kernel_rfl)) (fun _ _ _ h => h) (Or.inl ⟨by rfl, ?_⟩) ?_ ?_
  rotate_left
  · intro w'
    go_simp
    with_reducible rfl
  rotate_left
  · simp only [Act.put, List.setIfInBounds_toArray, List.set_cons_zero, List.set_cons_succ, i64_w, i32_w]
    rfl
  refine take_ (i := 3) (N := some 7) (v := ?_) (a' := ?_) #[true, true, true, true, false, false, false, false, false, false] rfl rfl (take_ofW HT_.out HW_.out (by kernel_rfl)) (fun _ _ _ h => h) (Or.inl ⟨by rfl, ?_⟩) hHeld ?_ ?_
  rotate_left
  · intro w' s0
    go_simp
    with_reducible rfl
  rotate_left
  · simp only [Act.put, List.setIfInBounds_toArray, List.set_cons_zero, List.set_cons_succ, i64_w, i32_w]
    rfl
  refine pure_ (i := 4) (N := some 8) (v := ?_) (a' := ?_) #[true, true, true, true, true, false, false, false, false, false] rfl rfl (any_of HT_.out (by kernel_rfl)) (fun _ _ _ h => h) (Or.inl ⟨by rfl, ?_⟩) ?_ ?_
  rotate_left
  · intro w'
    go_simp
    with_reducible rfl
  rotate_left
  · simp only [Act.put, List.setIfInBounds_toArray, List.set_cons_zero, List.set_cons_succ, i64_w, i32_w]
    rfl
  refine pure_ (i := 5) (N := some 9) (v := ?_) (a' := ?_) #[true, true, true, true, true, true, false, false, false, false] rfl rfl (any_of HT_.out (by kernel_rfl)) (fun _ _ _ h => h) (Or.inl ⟨by rfl, ?_⟩) ?_ ?_
  rotate_left
  · intro w'
    go_simp
    rw [assert_run]
    rfl
  rotate_left
  · simp only [Act.put, List.setIfInBounds_toArray, List.set_cons_zero, List.set_cons_succ, i64_w, i32_w]
    rfl
  refine one_ (i := 6) (N := some 10) #[true, true, true, true, true, true, true, false, false, false] rfl rfl (one_of HT_.out (by kernel_rfl)) (by decide) (fun K hK => ?_)
  refine value_ (v := .slice (some ⟨w1.heap.size, 0, none⟩) 1 1) (w1 := w1.alloc (.cells #[.int .i64 x] 3)) (by rfl) rfl ?_ ?_
  · go_simp
    first | rfl | done
  refine hK.out _ _ ((HBk.out.below (below_alloc (Below.refl _ _) _)).cells.2.2.2) (fun hHeld => ?_)
  clear hK K
  refine norm_ (a' := ?_) ?_ ?_
  rotate_left
  · show Act.put _ (some 10) _ = _
    simp only [Act.put, List.setIfInBounds_toArray, List.set_cons_zero, List.set_cons_succ, i64_w, i32_w]
    rfl
  refine one_ (i := 7) (N := some 11) #[true, true, true, true, true, true, true, true, false, false] rfl rfl (one_of HT_.out (by kernel_rfl)) (by decide) (fun K hK => ?_)
  refine Kd.R_append_step (Kd.int .i64) (w0 := w1) base (by rfl) (.tmp 7) (.tmp 10) 75 3 (.int .i64 0) 8 rfl Tryd.underlying75 (by kernel_rfl) rfl (by decide) (by omega) (.slice A l.length c) l x [.int .i64 x] (fun _ => True) (fun _ => False) rfl rfl ?aP (fun _ h => h.elim) ?aF ?aO ?aB ?aS ?aL ?_
  case aP => exact rfl
  case aF => exact (fun _ _ => trivial)
  case aO => exact HR.out
  case aB => exact Below.refl _ _
  case aS => exact HBS.out
  case aL => have := HL.out; omega
  intro v1 w2 ho hb2 hg hat
  obtain ⟨A1, c1, rfl⟩ := Kd.R_slice ho
  have HR2 := Aside0.mk ho
  have HG2 := Aside0.mk hg
  have HAT := Aside0.mk hat
  have HB2 := Aside0.mk hb2
  have HBk2 := Aside0.mk (ABlk.grownI HBk.out HR.out hg)
  clear ho hb2 hg hat
  refine hK.out _ _ HBk2.out.cells.2.2.2 (fun hHeld => ?_)
  clear hK K
  refine norm_ (a' := ?_) ?_ ?_
  rotate_left
  · show Act.put _ (some 11) _ = _
    simp only [Act.put, List.setIfInBounds_toArray, List.set_cons_zero, List.set_cons_succ, i64_w, i32_w]
    rfl
  refine pure_ (i := 8) (N := some 12) (v := ?_) (a' := ?_) #[true, true, true, true, true, true, true, true, true, false] rfl rfl (any_of HT_.out (by kernel_rfl)) (fun _ _ _ h => h) (Or.inl ⟨by rfl, ?_⟩) ?_ ?_
  rotate_left
  · intro w'
    go_simp
    with_reducible rfl
  rotate_left
  · simp only [Act.put, List.setIfInBounds_toArray, List.set_cons_zero, List.set_cons_succ, i64_w, i32_w]
    rfl
  refine last_ (i := 9) (N := none) #[true, true, true, true, true, true, true, true, true, true] rfl rfl (one_of HT_.out (by kernel_rfl)) (by decide) (fun K hK => ?_)
  obtain ⟨w3, hw3⟩ : ∃ w3, w3 = w2.setCell ⟨p, 3, none⟩ (.slice A1 (l ++ [x]).length c1) := ⟨_, rfl⟩
  have HBk3 := Aside0.mk (show ABlk w3 p size room vc (.slice A1 (l ++ [x]).length c1) from by rw [hw3]; exact HBk2.out.set3 _)
  have HR3 := Aside0.mk (show FreeR w3 base (.slice A1 (l ++ [x]).length c1) (l ++ [x]) from by rw [hw3]; exact Kd.R_set HR2.out HBk2.out (by decide) 3 _)
  have HW3 := Aside0.mk hw3
  have k3 := HBk2.out.cells.2.2.2
  have kf := blk_frozen HBk2.out 3
  refine skip_ (w1 := w3) (by rfl) rfl ?_ ?_
  · (go_simp <;> first | rfl | (rw [hw3]; rfl) | (subst hw3; rfl))
  clear k3 kf hw3 hHeld
  refine hK.out _ _ ?_
  clear hK K
  refine done_ (done_of HT_.out (by kernel_rfl)) ?_
  refine bodyPost_end (results_none rfl _ _ _) rfl ?_
  refine ⟨rfl, _, HBk3.out, HR3.out, ?_, ?_, ?_⟩
  · rcases HAT.out with h | ⟨b, h1, h2⟩
    · exact .inl h
    · exact .inr ⟨b, h1, Nat.le_trans HB1.out.size h2⟩
  · rw [HW3.out]
    exact ⟨by rw [World.size_setCell]; exact Nat.le_trans HB1.out.size HG2.out.size, fun k hk hne hr => (Below.heap_setCell w2 ⟨p, 3, none⟩ _ k hne).trans ((HG2.out.block k (Nat.lt_of_lt_of_le hk HB1.out.size) hr).trans (HB1.out.block k hk))⟩
  · intro hbp
    rw [HW3.out]
    exact Below.setCell ((HB1.out.mono HBS0.out).trans HB2.out) hbp _
set_option maxHeartbeats 4000000 in
set_option maxRecDepth 100000 in
theorem popm_calls {w : World} {p base : Nat} {size room : Int} {vc : Value} {g n c : Nat} {l : List Int} (h : ABlk w p size room vc (.slice (some ⟨g, 0, none⟩) n c)) (hR : FreeR w base (.slice (some ⟨g, 0, none⟩) n c) l) (k : Nat) (hk : n = k + 1) (hn : n ≤ 4294967296) (hc : n ≤ c) :
    Calls Tryd.prog 138 #[.pointer (some ⟨p, 3, none⟩)] w fun e w' => e = .returned (.iface 3 (.int .i64 (gn l k))) ∧ ABlk w' p size room vc (.slice (some ⟨g, 0, none⟩) k c) ∧ FreeR w' base (.slice (some ⟨g, 0, none⟩) k c) (l.take k) ∧ KB w w' p := by
  have HBk := Aside0.mk h
  have HR := Aside0.mk hR
  have HN := Aside0.mk hn
  have hx := (FreeR.cell hR k (by omega)).1
  obtain ⟨x, hxe⟩ : ∃ x, x = gn l k := ⟨_, rfl⟩
  rw [← hxe] at hx
  rw [← hxe]
  have hnk : (n : Int) - 1 = (k : Int) := by omega
  have hwk : wrap64 (k : Int) = (k : Int) := by unfold wrap64; omega
  have q1 : (k : Int) < (n : Int) := by omega
  have q2 : (k : Int) ≤ (c : Int) := by omega
  have q3 : k ≤ c := by omega
  have HK := Aside0.mk hk
  obtain ⟨c0, c1, c2, c3⟩ := h.cells
  have f3 := blk_frozen h 3
  clear h hR hn hxe hk hc
  go_enter Tryd.func138, Tryd.ntmps138
  go_wp2_with fail
  go_ret
  refine ⟨rfl, HBk.out.set3 _, ?_, ?_⟩
  · have h1 := Kd.R_take (m := k) HR.out (by have := FreeR.len HR.out; have := HK.out; omega)
    exact Kd.R_set h1 HBk.out (by decide) 3 _
  · exact (KB.refl w p).set 3 _
end Go.Proofs.YtdeneoknjeegbaaDoor.P
end
section
set_option linter.unusedVariables false
set_option linter.unusedSimpArgs false
namespace Go.Proofs.YtdeneoknjeegbaaDoor.P
open Go.RowKit Go.Proofs.YtdeneoknjeegbaaDoorW.PrintWords Go.Proofs.YtdeneoknjeegbaaDoorW.PrintLast Go.Proofs.YtdeneoknjeegbaaDoorW.PrintMore
theorem keep_via {w w1 w2 : World} {p g : Nat} {row : Option Nat} (h : KeepBut w w1 p row) (k : KeepBut w1 w2 g none) (hg : row = some g ∨ w.heap.size ≤ g) : KeepBut w w2 p row :=
  ⟨Nat.le_trans h.1 k.1, fun x hx hne hr => (k.2 x (Nat.lt_of_lt_of_le hx h.1) (fun e => by
    rcases hg with hg | hg
    · exact hr (by rw [hg, e])
    · omega) (by simp)).trans (h.2 x hx hne hr)⟩
theorem own_some {g n c : Nat} : (Value.slice (some ⟨g, 0, none⟩) n c).ownBlock = some g := by simp [Value.ownBlock]
set_option maxHeartbeats 4000000 in
set_option maxRecDepth 100000 in
theorem hpush_calls {w : World} {p base : Nat} {size room : Int} {vc vf : Value} {l : List Int} (h : ABlk w p size room vc vf) (hR : FreeR w base vf l) (hb : base ≤ p) (x : Int) (hl : l.length < 4194305) (hH : HeapN l.length l) :
    Calls Tryd.prog 50 #[.iface 91 (.pointer (some ⟨p, 3, none⟩)), .iface 3 (.int .i64 x)] w fun e w' => e = .returned (.tuple #[]) ∧ ∃ v1 l', ABlk w' p size room vc v1 ∧ FreeR w' base v1 l' ∧ HeapN l'.length l' ∧ l'.Perm (l ++ [x]) ∧ (v1.ownBlock = vf.ownBlock ∨ ∃ b, v1.ownBlock = some b ∧ w.heap.size ≤ b) ∧ KeepBut w w' p vf.ownBlock ∧ Below base w w' := by
  have HBk := Aside0.mk h
  have HR := Aside0.mk hR
  have HBP := Aside0.mk hb
  have HL := Aside0.mk hl
  have HH := Aside0.mk hH
  clear h hR hb hl hH
  go_enter Tryd.func50, Tryd.ntmps50
  go_wp2_with ((rw [push_method]; go_upon))
  refine (pushm_calls HBk.out HR.out (by have := HBk.out.lt; have := HBP.out; omega) x (by have := HL.out; omega)).mono ?_
  rintro e w1 ⟨rfl, v1, hB1, hR1, hat, hK1, hbel⟩
  obtain ⟨A1, c1, rfl⟩ := Kd.R_slice hR1
  have hne : l ++ [x] ≠ [] := by simp
  obtain ⟨g, rfl⟩ : ∃ g, A1 = some ⟨g, 0, none⟩ := by
    obtain ⟨ad, cc, e, hcl, hcK, hcc⟩ := Kd.C_get (FreeR.readsC hR1) (0 : Int) 0 (by omega) (by simp)
    subst e
    obtain ⟨g, rfl⟩ := Kd.R_head hR1
    exact ⟨g, rfl⟩
  obtain ⟨n1, hn1⟩ : ∃ n, n = (l ++ [x]).length := ⟨_, rfl⟩
  have hn2 : n1 = l.length + 1 := by rw [hn1]; simp
  rw [← hn1] at hB1 hR1 hat
  have HB1 := Aside0.mk hB1
  have HR1 := Aside0.mk hR1
  have HK1 := Aside0.mk hK1
  have HBe := Aside0.mk (hbel HBP.out)
  have HAT := Aside0.mk hat
  have HUP := Aside0.mk (show HeapUp n1 l.length (l ++ [x]) by rw [hn1]; exact HH.out.push x)
  have HN1 := Aside0.mk hn2
  have hnl : (n1 : Int) - 1 = (l.length : Int) := by omega
  have hll := HL.out
  obtain ⟨c0, c1', c2, c3⟩ := hB1.cells
  clear hB1 hR1 hat hK1 hbel hne hn1
  go_wp2_with ((rw [len_method _ c3]; go_upon))
  refine (len_calls _ _ _ _).mono ?_
  rintro e w' ⟨rfl, rfl⟩
  go_wp2_with fail
  refine (up_calls HB1.out HR1.out l.length (by omega) (by omega) HUP.out).mono ?_
  rintro e w2 ⟨rfl, l2, hR2, hH2, hP2, hK2⟩
  have hlen := FreeR.len hR2
  have HGP := Aside0.mk (show p ≠ g from fun e => by have := Kd.R_ne HR1.out (e ▸ HB1.out) (by decide); simp [Value.ownBlock] at this)
  have HB2 := Aside0.mk (show ABlk w2 p size room vc (.slice (some ⟨g, 0, none⟩) n1 c1) from hK2.k.blk HB1.out HGP.out (by simp))
  have HR2 := Aside0.mk hR2
  have HFIN := Aside0.mk (And.intro (show HeapN l2.length l2 by rw [← hlen]; exact hH2) hP2)
  have hgr : vf.ownBlock = some g ∨ w.heap.size ≤ g := by
    rcases HAT.out with h | ⟨b, h1, h2⟩
    · rw [own_some] at h
      exact .inl h.symm
    · rw [own_some] at h1
      obtain rfl := Option.some.inj h1
      exact .inr h2
  have HK2 := Aside0.mk (keep_via HK1.out hK2.k hgr)
  have HBel := Aside0.mk (show Below base w w2 from by
    have hgb : base ≤ g := own_base (Kd.R_own hR2).choose_spec g own_some
    exact HBe.out.trans (hK2.below (by have := HBk.out.lt; have := HBP.out; have := HBe.out.size; omega) hgb))
  clear hR2 hH2 hP2 hK2 hlen hgr
  go_wp2_with fail
  refine bodyPost_end (results_none rfl _ _ _) rfl ?_
  exact ⟨rfl, _, l2, HB2.out, HR2.out, HFIN.out.1, HFIN.out.2, HAT.out, HK2.out, HBel.out⟩
set_option maxHeartbeats 4000000 in
set_option maxRecDepth 100000 in
theorem hpop_calls {w : World} {p base : Nat} {size room : Int} {vc : Value} {g c : Nat} {l : List Int} (k : Nat) (h : ABlk w p size room vc (.slice (some ⟨g, 0, none⟩) (k + 1) c)) (hR : FreeR w base (.slice (some ⟨g, 0, none⟩) (k + 1) c) l) (hl : k < 4294967295) (hH : HeapN (k + 1) l) (hb : base ≤ p) :
    Calls Tryd.prog 95 #[.iface 91 (.pointer (some ⟨p, 3, none⟩))] w fun e w' => e = .returned (.iface 3 (.int .i64 (gn l 0))) ∧ ∃ l', ABlk w' p size room vc (.slice (some ⟨g, 0, none⟩) k c) ∧ FreeR w' base (.slice (some ⟨g, 0, none⟩) k c) l' ∧ HeapN l'.length l' ∧ (l' ++ [gn l 0]).Perm l ∧ KeepBut w w' p (some g) ∧ Below base w w' := by
  have HBk := Aside0.mk h
  have HR := Aside0.mk hR
  have HBP := Aside0.mk hb
  have HL := Aside0.mk hl
  have HH := Aside0.mk hH
  have HLEN := Aside0.mk (FreeR.len hR)
  have HC := Aside0.mk (Kd.R_reads' hR).2.1
  have HGP := Aside0.mk (show p ≠ g from fun e => by have := Kd.R_ne hR (e ▸ h) (by decide); simp [Value.ownBlock] at this)
  obtain ⟨n, hn⟩ : ∃ n, n = k + 1 := ⟨_, rfl⟩
  rw [← hn] at h
  have HN := Aside0.mk hn
  rw [← hn] at HBk HR HH HLEN HC
  obtain ⟨c0, c1, c2, c3⟩ := h.cells
  have hnk : (n : Int) - 1 = (k : Int) := by omega
  have hwk : wrap64 (k : Int) = (k : Int) := by unfold wrap64; omega
  clear h hR hb hl hH hn
  go_enter Tryd.func95, Tryd.ntmps95
  go_wp2_with ((rw [len_method _ c3]; go_upon))
  refine (len_calls _ _ _ _).mono ?_
  rintro e w' ⟨rfl, rfl⟩
  go_wp2_with ((rw [swap_method _ c3]; go_upon))
  refine (swap_calls HR.out 0 k (by have := HN.out; omega) (by have := HN.out; omega)).mono ?_
  rintro e w1 ⟨rfl, hR1, hK1⟩
  have HB1 := Aside0.mk (show ABlk w1 p size room vc (.slice (some ⟨g, 0, none⟩) n c) from hK1.k.blk HBk.out HGP.out (by simp))
  have HR1 := Aside0.mk hR1
  have HK1 := Aside0.mk hK1
  have HD := Aside0.mk (show HeapDn k 0 (swapL l 0 k) by
    have h1 := HH.out
    rw [HLEN.out] at h1
    exact h1.swap_last (by have := HLEN.out; have := HN.out; omega))
  clear hR1 hK1 c0 c1 c2 c3
  go_wp2_with fail
  refine (down_calls HB1.out HR1.out (nn := k) (by have := HN.out; omega) (by have := HN.out; have := HL.out; omega) HD.out).mono ?_
  rintro e w2 ⟨⟨b, rfl⟩, l2, hR2, hH2, hP2, hG2, hK2⟩
  have HB2 := Aside0.mk (show ABlk w2 p size room vc (.slice (some ⟨g, 0, none⟩) n c) from hK2.k.blk HB1.out HGP.out (by simp))
  have HR2 := Aside0.mk hR2
  have HK2 := Aside0.mk (HK1.out.then_ hK2)
  have hi0 : 0 < l.length := by have := HLEN.out; have := HN.out; omega
  have hik : k < l.length := by have := HLEN.out; have := HN.out; omega
  have HLST := Aside0.mk (show gn l2 k = gn l 0 by rw [hG2 k (Nat.le_refl _), gn_swap hi0 hik, if_pos rfl])
  have hl2 := FreeR.len hR2
  have HFIN := Aside0.mk (show HeapN (l2.take k).length (l2.take k) ∧ (l2.take k ++ [gn l 0]).Perm l by
    have h1 : (l2.take k).length = k := by rw [List.length_take]; have := HN.out; omega
    refine ⟨by rw [h1]; exact hH2.take, ?_⟩
    have h2 : l2.take k ++ [gn l 0] = l2 := by
      have h3 : k < l2.length := by have := HN.out; omega
      rw [← HLST.out, gn_lt h3]
      have h4 : l2.drop k = [l2[k]] := by
        rw [List.drop_eq_getElem_cons h3, List.drop_of_length_le (by have := HN.out; omega)]
      rw [← h4, List.take_append_drop]
    rw [h2]
    exact hP2.trans (swapL_perm hi0 hik))
  clear hR2 hH2 hP2 hG2 hK2 hl2 hi0 hik
  go_wp2_with ((rw [pop_method]; go_upon))
  refine (popm_calls HB2.out HR2.out k HN.out (by have := HN.out; have := HL.out; omega) (by have := HC.out; have := HLEN.out; omega)).mono ?_
  rintro e w3 ⟨rfl, hB3, hR3, hK3⟩
  rw [HLST.out]
  have HB3 := Aside0.mk hB3
  have HR3 := Aside0.mk hR3
  have HK3 := Aside0.mk (show KeepBut w w3 p (some g) from ⟨Nat.le_trans HK2.out.k.1 hK3.k.1, fun x hx hne hr => (hK3.k.2 x (Nat.lt_of_lt_of_le hx HK2.out.k.1) hne (by simp)).trans (HK2.out.k.2 x hx (fun e => hr (by rw [e])) (by simp))⟩)
  have HBel := Aside0.mk (show Below base w w3 from by
    have hgb : base ≤ g := own_base (Kd.R_own hR3).choose_spec g own_some
    have hpb := HBP.out
    have hbs : base ≤ w.heap.size := by have := HBk.out.lt; omega
    exact (HK2.out.below hbs hgb).trans (hK3.below (Nat.le_trans hbs HK2.out.k.1) hpb))
  clear hB3 hR3 hK3
  go_wp2_with fail
  go_ret
  exact ⟨rfl, _, HB3.out, HR3.out, HFIN.out.1, HFIN.out.2, HK3.out, HBel.out⟩
end Go.Proofs.YtdeneoknjeegbaaDoor.P
end
section
set_option linter.unusedVariables false
set_option linter.unusedSimpArgs false
namespace Go.Proofs.YtdeneoknjeegbaaDoor.P
open Go.RowKit Go.Proofs.YtdeneoknjeegbaaDoorW.PrintWords Go.Proofs.YtdeneoknjeegbaaDoorW.PrintLast Go.Proofs.YtdeneoknjeegbaaDoorW.PrintMore
theorem CellsR.keepF {w w1 : World} {base p : Nat} {size room : Int} {vc v vf : Value} {rows : List (List Value)} {l : List Int} (h : CellsR w base v rows) (hB : ABlk w p size room vc vf) (hF : FreeR w base vf l) (hk : KeepBut w w1 p vf.ownBlock) : CellsR w1 base v rows := by
  have h1 := Kd.R_types h hB (by decide)
  cases ho : vf.ownBlock with
  | none => exact Kd.R_mono (Kd.R_step h1 (fun k hk1 hlt => hk.2 k hlt hk1.2 (by rw [ho]; simp))) (fun _ _ => trivial)
  | some g =>
    obtain ⟨cells, hc⟩ := own_typed (Kd.R_own hF).choose_spec g ho
    have h2 := Kd.R_types h1 hc (by decide)
    exact Kd.R_mono (Kd.R_step h2 (fun k hk1 hlt => hk.2 k hlt hk1.1.2 (by rw [ho]; intro e; exact hk1.2 (Option.some.inj e)))) (fun _ _ => trivial)
theorem raw_row {w : World} {base : Nat} {v : Value} {rows : List (List Value)} (h : CellsR w base v rows) (k : Nat) (r : List Value) (hr : rows[k]? = some r) : r.length = 11 ∧ ∃ g c, v = .slice (some ⟨g, 0, none⟩) rows.length c ∧ ∀ j u, r[j]? = some u → w.cell? ⟨g, k * 11 + j, none⟩ = some u := by
  obtain ⟨A, c, rfl⟩ := Kd.R_slice h
  have hkl := (List.getElem?_eq_some_iff.1 hr).1
  have hrd := Kd.R_reads' h
  obtain ⟨ad, cc, e, hcl, hcK, hcc⟩ := Kd.C_get hrd.2.2 ([] : List Value) (k : Int) (by omega) (by omega)
  subst e
  obtain ⟨g, rfl⟩ := Kd.R_head h
  have h0 := hcK.1
  rw [Int.toNat_natCast, List.getD_eq_getElem?_getD, hr] at h0
  have h1 : cc = r := h0
  refine ⟨by rw [← h1]; exact hcl, g, c, rfl, fun j u hj => ?_⟩
  have := hcc j u (by rw [h1]; exact hj)
  rwa [Int.toNat_natCast, add_plain] at this
set_option maxHeartbeats 8000000 in
set_option maxRecDepth 100000 in
theorem put_pop {w : World} {p base : Nat} {size room : Int} {vc : Value} {g k c : Nat} {l : List Int} {rows : List (List Value)} (lf : Bool) (A1 A2 A5 A9 : Option Addr) (n1 n2 n5 n9 c1 c2 c5 c9 : Nat) (x3 x4 x6 x7 x8 : Int)
    (h : ABlk w p size room vc (.slice (some ⟨g, 0, none⟩) (k + 1) c)) (hR : CellsR w base vc rows) (hF : FreeR w base (.slice (some ⟨g, 0, none⟩) (k + 1) c) l) (hH : HeapN (k + 1) l) (j : Nat) (hj : gn l 0 = (j : Int)) (hjr : j < rows.length) (hs : size ≠ 0) (hb : base ≤ p) (hr : (rows.length : Int) - ((k + 1 : Nat) : Int) < room) (hr0 : 1 ≤ room) (hr1 : room ≤ 4194304) (hrl : rows.length ≤ 4194304) (hkl : k < rows.length) :
    Calls Tryd.prog 74 #[.pointer (some ⟨p, 0, none⟩), .agg #[.bool lf, .slice A1 n1 c1, .slice A2 n2 c2, .int .i64 x3, .int .i64 x4, .slice A5 n5 c5, .int .i64 x6, .int .i64 x7, .int .i64 x8, .slice A9 n9 c9]] w
      fun e w' => e = .returned (.tuple #[.int .i64 (j : Int), .int .i64 0]) ∧ ∃ l', ABlk w' p size room vc (.slice (some ⟨g, 0, none⟩) k c) ∧ CellsR w' base vc (rows.set j [.bool true, .bool lf, .slice A1 n1 c1, .slice A2 n2 c2, .int .i64 x3, .int .i64 x4, .slice A5 n5 c5, .int .i64 x6, .int .i64 x7, .int .i64 x8, .slice A9 n9 c9]) ∧ FreeR w' base (.slice (some ⟨g, 0, none⟩) k c) l' ∧ HeapN l'.length l' ∧ (l' ++ [(j : Int)]).Perm l ∧
        (∀ x, x < w.heap.size → x ≠ p → x ≠ g → some x ≠ vc.ownBlock → w'.heap[x]? = w.heap[x]?) ∧ Below base w w' := by
  obtain ⟨r, hrow⟩ : ∃ r, rows[j]? = some r := ⟨_, List.getElem?_eq_getElem hjr⟩
  obtain ⟨hrl11, gc, cc, rfl, hcells⟩ := raw_row hR j r hrow
  have HBk := Aside0.mk h
  have HR := Aside0.mk hR
  have HF := Aside0.mk hF
  have HH := Aside0.mk hH
  have HS := Aside0.mk hs
  have HBP := Aside0.mk hb
  have HROW := Aside0.mk (And.intro hrow hrl11)
  have HJ := Aside0.mk (And.intro hj hjr)
  obtain ⟨n, hn⟩ : ∃ n, n = k + 1 := ⟨_, rfl⟩
  obtain ⟨u, hu⟩ : ∃ u, u = room - ((rows.length : Int) - (n : Int)) := ⟨_, rfl⟩
  have hu0 : (u == 0) = false := by simp; omega
  have HRL := Aside0.mk (show n ≤ rows.length ∧ rows.length ≤ 4194304 ∧ 1 ≤ room ∧ room ≤ 4194304 ∧ (rows.length : Int) - (n : Int) < room by omega)
  have HU := Aside0.mk hu
  have HN := Aside0.mk hn
  have hn0 : decide (0 < (n : Int)) = true := decide_eq_true (by omega)
  have hn00 : decide (0 < n) = true := decide_eq_true (by omega)
  rw [← hn] at HBk HF HH
  have HGL := Aside0.mk (show g < w.heap.size from own_lt (Kd.R_own hF).choose_spec g own_some)
  clear h hR hF hH hs hb hr hr0 hr1 hu hrow hrl11 hj hjr hcells hkl hrl hn
  go_enter Tryd.func74, Tryd.ntmps74
  go_wp2_with fail
  refine (room_calls (A := some ⟨gc, 0, none⟩) (n := rows.length) (c := cc) (HBk.out.below (below_alloc (Below.refl _ _) _)) HS.out (by have := HRL.out; omega) (by have := HRL.out; omega) (by have := HRL.out; omega) (by have := HRL.out; omega)).mono ?_
  rw [← HU.out]
  rintro e w' ⟨rfl, ⟨m, rfl⟩⟩
  obtain ⟨W1, hW1⟩ : ∃ W1, W1 = (w.alloc (.cells #[.bool lf, .slice A1 n1 c1, .slice A2 n2 c2, .int .i64 x3, .int .i64 x4, .slice A5 n5 c5, .int .i64 x6, .int .i64 x7, .int .i64 x8, .slice A9 n9 c9] 39)).drewN m := ⟨_, rfl⟩
  rw [← hW1]
  have hB1 : Below w.heap.size w W1 := by rw [hW1]; exact pw_below_drewN (below_alloc (Below.refl _ _) _) _
  have hN1 : W1.heap[w.heap.size]? = some (.cells #[.bool lf, .slice A1 n1 c1, .slice A2 n2 c2, .int .i64 x3, .int .i64 x4, .slice A5 n5 c5, .int .i64 x6, .int .i64 x7, .int .i64 x8, .slice A9 n9 c9] 39 (0, 0)) := by rw [hW1]; exact heap_alloc_new w _
  have HN1 := Aside0.mk hN1
  have HB1 := Aside0.mk hB1
  have HR1 := Aside0.mk (Kd.R_below HR.out hB1)
  have HF1 := Aside0.mk (Kd.R_below HF.out hB1)
  have HBk1 := Aside0.mk (HBk.out.below hB1)
  clear hN1 hB1 hW1
  obtain ⟨k0, k1, k2, k3⟩ := HBk1.out.cells
  go_wp2_with fail
  refine (len_calls (some ⟨g, 0, none⟩) n c _).mono ?_
  rintro e w' ⟨rfl, rfl⟩
  go_wp2_with fail
  have hBk1 := HBk1.out
  have hF1 := HF1.out
  have hH := HH.out
  rw [HN.out] at hBk1 hF1 hH
  refine (hpop_calls k hBk1 hF1 (by have := HRL.out; have := HN.out; omega) hH HBP.out).mono ?_
  rw [HJ.out.1]
  rintro e w2 ⟨rfl, l2, hB2, hF2, hH2, hP2, hK2, hBel2⟩
  have HR2 := Aside0.mk (CellsR.keepF HR1.out hBk1 hF1 (by rw [own_some]; exact hK2))
  have HBk2 := Aside0.mk hB2
  have HF2 := Aside0.mk hF2
  have HFIN := Aside0.mk (And.intro hH2 hP2)
  have HN2 := Aside0.mk (show w2.heap[w.heap.size]? = some (.cells #[.bool lf, .slice A1 n1 c1, .slice A2 n2 c2, .int .i64 x3, .int .i64 x4, .slice A5 n5 c5, .int .i64 x6, .int .i64 x7, .int .i64 x8, .slice A9 n9 c9] 39 (0, 0)) from (hK2.2 w.heap.size (blk_lt HN1.out) (by have := HBk.out.lt; omega) (by have := HGL.out; simp; omega)).trans HN1.out)
  have HK2 := Aside0.mk hK2
  have HBel2 := Aside0.mk hBel2
  clear hB2 hF2 hH2 hP2 hK2 hBel2 hBk1 hF1 hH k0 k1 k2 k3
  obtain ⟨k0, k1, k2, k3⟩ := HBk2.out.cells
  go_wp2_with ((rw [assert_run]; go_upon))
  have q1 : (j : Int) < (rows.length : Int) := by have := HJ.out.2; omega
  have q2 : 0 ≤ (j : Int) := by omega
  refine still_tail_at 8 (by kernel_rfl) (by kernel_rfl) (fun W hW => ?_)
  have hbw : Below w2.heap.size w2 W := by rw [hW]; exact below_drew (Below.refl _ _)
  have HBk3 := Aside0.mk (HBk2.out.below hbw)
  have HN3 := Aside0.mk (blk_below HN2.out hbw)
  have HR3 := Aside0.mk (Kd.R_below HR2.out hbw)
  have HF3 := Aside0.mk (Kd.R_below HF2.out hbw)
  have HBW := Aside0.mk hbw
  clear hW hbw k0 k1 k2 k3
  obtain ⟨k0, k1, k2, k3⟩ := HBk3.out.cells
  have m0 := blk_cell HN3.out 0
  have m1 := blk_cell HN3.out 1
  have m2 := blk_cell HN3.out 2
  have m3 := blk_cell HN3.out 3
  have m4 := blk_cell HN3.out 4
  have m5 := blk_cell HN3.out 5
  have m6 := blk_cell HN3.out 6
  have m7 := blk_cell HN3.out 7
  have m8 := blk_cell HN3.out 8
  have m9 := blk_cell HN3.out 9
  simp only [List.take_succ_cons, List.take_zero, List.drop_succ_cons, List.drop_zero]
  repeat still_step
  refine wpStill_nil ?_
  clear k0 k1 k2 k3 m0 m1 m2 m3 m4 m5 m6 m7 m8 m9 q1 q2
  have hold : ∀ jj u, r[jj]? = some u → W.cell? ⟨gc, (j : Int).toNat * 11 + jj, none⟩ = some u := by
    obtain ⟨_, g2, c2', e, hc⟩ := raw_row HR3.out j r HROW.out.1
    injection e with e1 e2 e3
    injection e1 with e1
    injection e1 with e1
    rw [Int.toNat_natCast, e1]
    exact hc
  have hnew : r.take 0 ++ [.bool true, .bool lf, .slice A1 n1 c1, .slice A2 n2 c2, .int .i64 x3, .int .i64 x4, .slice A5 n5 c5, .int .i64 x6, .int .i64 x7, .int .i64 x8, .slice A9 n9 c9] ++ r.drop (0 + 11) = [.bool true, .bool lf, .slice A1 n1 c1, .slice A2 n2 c2, .int .i64 x3, .int .i64 x4, .slice A5 n5 c5, .int .i64 x6, .int .i64 x7, .int .i64 x8, .slice A9 n9 c9] := by
    rw [List.drop_of_length_le (by have := HROW.out.2; omega)]
    rfl
  refine Kd.R_store (Kd.raw 11) (w0 := W) base rfl rfl 89 (.tmp 44) (.tmp 43) rfl 89 (g := gc) (n := rows.length) (cap := cc) (o' := j * 11) (j : Int) 0 rows [.bool true, .bool lf, .slice A1 n1 c1, .slice A2 n2 c2, .int .i64 x3, .int .i64 x4, .slice A5 n5 c5, .int .i64 x6, .int .i64 x7, .int .i64 x8, .slice A9 n9 c9] (.agg #[.bool true, .bool lf, .slice A1 n1 c1, .slice A2 n2 c2, .int .i64 x3, .int .i64 x4, .slice A5 n5 c5, .int .i64 x6, .int .i64 x7, .int .i64 x8, .slice A9 n9 c9]) [.bool true, .bool lf, .slice A1 n1 c1, .slice A2 n2 c2, .int .i64 x3, .int .i64 x4, .slice A5 n5 c5, .int .i64 x6, .int .i64 x7, .int .i64 x8, .slice A9 n9 c9] r (fun _ => True) (fun _ => False) rfl rfl rfl rfl (by kernel_rfl) ?aOne HR3.out (by omega) (by have := HJ.out.2; omega) HROW.out.2 hold (Nat.le_refl 11) ?aM (fun _ h => h.elim) (Below.refl _ _) ?_
  case aOne => intro q hq; simp only [List.mem_cons, List.not_mem_nil, or_false] at hq; rcases hq with rfl | rfl | rfl | rfl | rfl | rfl | rfl | rfl | rfl | rfl | rfl <;> rfl
  case aM =>
    have h2 : (Kd.raw 11).M W base (fun _ => False) [.bool true, .bool lf, .slice A1 n1 c1, .slice A2 n2 c2, .int .i64 x3, .int .i64 x4, .slice A5 n5 c5, .int .i64 x6, .int .i64 x7, .int .i64 x8, .slice A9 n9 c9] [.bool true, .bool lf, .slice A1 n1 c1, .slice A2 n2 c2, .int .i64 x3, .int .i64 x4, .slice A5 n5 c5, .int .i64 x6, .int .i64 x7, .int .i64 x8, .slice A9 n9 c9] := ⟨rfl, rfl, by intro q hq; simp only [List.mem_cons, List.not_mem_nil, or_false] at hq; rcases hq with rfl | rfl | rfl | rfl | rfl | rfl | rfl | rfl | rfl | rfl | rfl <;> rfl⟩
    rw [← hnew] at h2
    have h3 := h2
    rw [hnew] at h3
    exact (show (Kd.raw 11).M W base (fun _ => False) [.bool true, .bool lf, .slice A1 n1 c1, .slice A2 n2 c2, .int .i64 x3, .int .i64 x4, .slice A5 n5 c5, .int .i64 x6, .int .i64 x7, .int .i64 x8, .slice A9 n9 c9] (r.take 0 ++ [.bool true, .bool lf, .slice A1 n1 c1, .slice A2 n2 c2, .int .i64 x3, .int .i64 x4, .slice A5 n5 c5, .int .i64 x6, .int .i64 x7, .int .i64 x8, .slice A9 n9 c9] ++ r.drop (0 + 11)) from by rw [hnew]; exact h3)
  intro w4 hO4 hB4 hG4
  have HO4 := Aside0.mk hO4
  have HB4 := Aside0.mk hB4
  have HG4 := Aside0.mk hG4
  clear hO4 hB4 hG4 hold hnew
  go_wp2_with fail
  go_ret2
  have hgp : some p ≠ some gc := by
    have := Kd.R_ne HR3.out HBk3.out (by decide)
    simpa [Value.ownBlock] using this
  have hgg : gc ≠ g := by
    obtain ⟨cells, hcg⟩ := own_typed (Kd.R_own HF3.out).choose_spec g own_some
    have := Kd.R_ne HR3.out hcg (by decide)
    intro e
    exact this (by rw [own_some, e])
  have hBk4 : ABlk w4 p size room (.slice (some ⟨gc, 0, none⟩) rows.length cc) (.slice (some ⟨g, 0, none⟩) k c) := (HG4.out.block p HBk3.out.lt hgp).trans HBk3.out
  have hF4 : FreeR w4 base (.slice (some ⟨g, 0, none⟩) k c) l2 := Kd.R_grown2 HF3.out rfl HG4.out (fun x hx => by
    injection hx with hx
    subst hx
    rw [own_some]
    intro e
    exact hgg (Option.some.inj e))
  have hrow := HO4.out
  rw [Int.toNat_natCast] at hrow
  have s1 := HB1.out.size
  have s2 := HK2.out.1
  have s3 := HBW.out.size
  refine ⟨rfl, l2, hBk4, hrow, hF4, HFIN.out.1, HFIN.out.2, ?_, ?_⟩
  · intro x hx hxp hxg hxc
    rw [own_some] at hxc
    exact (HG4.out.block x (by omega) hxc).trans ((HBW.out.block x (by omega)).trans ((HK2.out.2 x (by omega) hxp (by simpa using hxg)).trans (HB1.out.block x hx)))
  · have hbw : base ≤ w.heap.size := by have := HBk.out.lt; have := HBP.out; omega
    exact (((HB1.out.mono hbw).trans HBel2.out).trans (HBW.out.mono (by omega))).trans HB4.out
set_option maxHeartbeats 4000000 in
set_option maxRecDepth 100000 in
theorem put_full {w : World} {p : Nat} {size room : Int} {A A' : Option Addr} {n n' c c' : Nat} (lf : Bool) (A1 A2 A5 A9 : Option Addr) (n1 n2 n5 n9 c1 c2 c5 c9 : Nat) (x3 x4 x6 x7 x8 : Int)
    (h : ABlk w p size room (.slice A n c) (.slice A' n' c')) (hs : size ≠ 0) (hr : room = (n : Int) - (n' : Int)) (hr0 : 0 ≤ room) (hr1 : room ≤ 4194304) (hn : n ≤ 4194304) (hn' : n' ≤ 4194304) :
    Calls Tryd.prog 74 #[.pointer (some ⟨p, 0, none⟩), .agg #[.bool lf, .slice A1 n1 c1, .slice A2 n2 c2, .int .i64 x3, .int .i64 x4, .slice A5 n5 c5, .int .i64 x6, .int .i64 x7, .int .i64 x8, .slice A9 n9 c9]] w
      fun e w' => e = .returned (.tuple #[.int .i64 0, .int .i64 4]) ∧ Below w.heap.size w w' := by
  have HBk := Aside0.mk h
  have HS := Aside0.mk hs
  have HRL := Aside0.mk (And.intro hr0 (And.intro hr1 (And.intro hn hn')))
  obtain ⟨u, hu⟩ : ∃ u, u = room - ((n : Int) - (n' : Int)) := ⟨_, rfl⟩
  have hu0 : (u == 0) = true := by simp; omega
  have HU := Aside0.mk hu
  clear h hs hr hr0 hr1 hu hn hn'
  go_enter Tryd.func74, Tryd.ntmps74
  go_wp2_with fail
  refine (room_calls (A := A) (n := n) (c := c) (HBk.out.below (below_alloc (Below.refl _ _) _)) HS.out (by have := HRL.out; omega) (by have := HRL.out; omega) (by have := HRL.out; omega) (by have := HRL.out; omega)).mono ?_
  rw [← HU.out]
  rintro e w' ⟨rfl, ⟨m, rfl⟩⟩
  have HB1 := Aside0.mk (show Below w.heap.size w ((w.alloc (.cells #[.bool lf, .slice A1 n1 c1, .slice A2 n2 c2, .int .i64 x3, .int .i64 x4, .slice A5 n5 c5, .int .i64 x6, .int .i64 x7, .int .i64 x8, .slice A9 n9 c9] 39)).drewN m) from pw_below_drewN (below_alloc (Below.refl _ _) _) _)
  go_wp2_with fail
  go_ret2
  exact ⟨rfl, HB1.out⟩
end Go.Proofs.YtdeneoknjeegbaaDoor.P
end
section
set_option linter.unusedVariables false
set_option linter.unusedSimpArgs false
namespace Go.Proofs.YtdeneoknjeegbaaDoor.P
open Go.RowKit Go.Proofs.YtdeneoknjeegbaaDoorW.PrintWords Go.Proofs.YtdeneoknjeegbaaDoorW.PrintLast Go.Proofs.YtdeneoknjeegbaaDoorW.PrintMore
abbrev Cs := List (Option Nd)
def usedN : Cs → Nat
  | [] => 0
  | none :: r => usedN r
  | some _ :: r => usedN r + 1
def lowN : Cs → Nat
  | [] => 0
  | none :: _ => 0
  | some _ :: r => lowN r + 1
def putC (cs : Cs) (n : Nd) : Cs := if lowN cs < cs.length then cs.set (lowN cs) (some n) else cs ++ [some n]
theorem usedN_le : ∀ cs : Cs, usedN cs ≤ cs.length
  | [] => Nat.le_refl _
  | none :: r => by have := usedN_le r; simp only [usedN, List.length_cons]; omega
  | some _ :: r => by have := usedN_le r; simp only [usedN, List.length_cons]; omega
theorem usedN_append : ∀ (cs : Cs) (n : Nd), usedN (cs ++ [some n]) = usedN cs + 1
  | [], n => rfl
  | none :: r, n => by simp only [usedN, List.cons_append]; exact usedN_append r n
  | some _ :: r, n => by simp only [usedN, List.cons_append]; rw [usedN_append r n]
theorem usedN_set : ∀ (cs : Cs) (i : Nat) (n : Nd), cs[i]? = some none → usedN (cs.set i (some n)) = usedN cs + 1
  | [], i, n, h => by simp at h
  | o :: r, 0, n, h => by
    obtain rfl : o = none := by simpa using h
    rfl
  | none :: r, i + 1, n, h => by
    simp only [List.set_cons_succ, usedN]
    exact usedN_set r i n (by simpa using h)
  | some _ :: r, i + 1, n, h => by
    simp only [List.set_cons_succ, usedN]
    rw [usedN_set r i n (by simpa using h)]
theorem usedN_clear : ∀ (cs : Cs) (i : Nat) (n : Nd), cs[i]? = some (some n) → usedN (cs.set i none) + 1 = usedN cs
  | [], i, n, h => by simp at h
  | o :: r, 0, n, h => by
    obtain rfl : o = some n := by simpa using h
    rfl
  | none :: r, i + 1, n, h => by
    simp only [List.set_cons_succ, usedN]
    exact usedN_clear r i n (by simpa using h)
  | some _ :: r, i + 1, n, h => by
    simp only [List.set_cons_succ, usedN]
    rw [usedN_clear r i n (by simpa using h)]
theorem lowN_le : ∀ cs : Cs, lowN cs ≤ cs.length
  | [] => Nat.le_refl _
  | none :: r => Nat.zero_le _
  | some _ :: r => by have := lowN_le r; simp only [lowN, List.length_cons]; omega
theorem lowN_none : ∀ cs : Cs, lowN cs < cs.length → cs[lowN cs]? = some none
  | [], h => by simp at h
  | none :: r, _ => rfl
  | some _ :: r, h => by
    simp only [lowN, List.length_cons] at h
    simp only [lowN, List.getElem?_cons_succ]
    exact lowN_none r (by omega)
theorem lowN_min : ∀ (cs : Cs) (i : Nat), cs[i]? = some none → lowN cs ≤ i
  | [], i, h => by simp at h
  | none :: r, i, _ => Nat.zero_le _
  | some _ :: r, 0, h => by simp at h
  | some _ :: r, i + 1, h => by
    simp only [lowN]
    have := lowN_min r i (by simpa using h)
    omega
theorem putC_length (cs : Cs) (n : Nd) : (putC cs n).length = if lowN cs < cs.length then cs.length else cs.length + 1 := by
  unfold putC
  split
  · rw [List.length_set]
  · simp
structure FreeOk (cs : Cs) (fr : List Int) : Prop where
  len : fr.length + usedN cs = cs.length
  dup : fr.Nodup
  mem : ∀ x : Int, x ∈ fr ↔ ∃ i : Nat, x = (i : Int) ∧ cs[i]? = some none
theorem FreeOk.nil : FreeOk [] [] := ⟨rfl, List.nodup_nil, fun x => ⟨fun h => by simp at h, fun ⟨i, _, h⟩ => by simp at h⟩⟩
theorem FreeOk.pop {cs : Cs} {fr l' : List Int} (h : FreeOk cs fr) (hh : HeapN fr.length fr) (h0 : 0 < fr.length) : gn fr 0 = (lowN cs : Int) ∧ lowN cs < cs.length := by
  have hm : gn fr 0 ∈ fr := by
    rw [gn_lt h0]
    exact List.getElem_mem h0
  obtain ⟨i, hi, hn⟩ := (h.mem _).1 hm
  have h1 := lowN_min cs i hn
  have hlt : i < cs.length := (List.getElem?_eq_some_iff.1 hn).1
  have h2 := lowN_none cs (by omega)
  have h3 : ((lowN cs : Nat) : Int) ∈ fr := (h.mem _).2 ⟨_, rfl, h2⟩
  obtain ⟨k, hk, he⟩ := List.getElem_of_mem h3
  have h4 := hh.min k hk
  rw [gn_lt hk, he] at h4
  exact ⟨by omega, by omega⟩
theorem FreeOk.put {cs : Cs} {fr l' : List Int} (h : FreeOk cs fr) (i : Nat) (n : Nd) (hi : cs[i]? = some none) (hp : (l' ++ [(i : Int)]).Perm fr) : FreeOk (cs.set i (some n)) l' := by
  have hlt : i < cs.length := (List.getElem?_eq_some_iff.1 hi).1
  have hl := hp.length_eq
  rw [List.length_append, List.length_singleton] at hl
  have hd : (l' ++ [(i : Int)]).Nodup := hp.nodup_iff.2 h.dup
  rw [List.nodup_append] at hd
  refine ⟨?_, hd.1, fun x => ?_⟩
  · have := h.len
    rw [usedN_set cs i n hi, List.length_set]
    omega
  · have hx : x ∈ l' ++ [(i : Int)] ↔ x ∈ fr := hp.mem_iff
    have hf := h.mem x
    constructor
    · intro hm
      obtain ⟨k, hk, hn⟩ := hf.1 (hx.1 (List.mem_append_left _ hm))
      have hne : k ≠ i := by
        rintro rfl
        exact hd.2.2 x hm (k : Int) (by simp) hk
      exact ⟨k, hk, by rw [List.getElem?_set_ne (Ne.symm hne)]; exact hn⟩
    · rintro ⟨k, hk, hn⟩
      have hne : k ≠ i := by
        rintro rfl
        rw [List.getElem?_set_self hlt] at hn
        cases hn
      rw [List.getElem?_set_ne (Ne.symm hne)] at hn
      rcases List.mem_append.1 (hx.2 (hf.2 ⟨k, hk, hn⟩)) with hm | hm
      · exact hm
      · exfalso
        have : x = (i : Int) := by simpa using hm
        omega
theorem FreeOk.grow {cs : Cs} (h : FreeOk cs []) (n : Nd) : lowN cs = cs.length ∧ FreeOk (cs ++ [some n]) [] := by
  have hn : ∀ k : Nat, cs[k]? ≠ some none := fun k hk => by
    have := (h.mem (k : Int)).2 ⟨k, rfl, hk⟩
    simp at this
  have h1 : lowN cs = cs.length := by
    rcases Nat.lt_or_ge (lowN cs) cs.length with h2 | h2
    · exact absurd (lowN_none cs h2) (hn _)
    · have := lowN_le cs
      omega
  refine ⟨h1, ⟨?_, List.nodup_nil, fun x => ⟨fun hx => by simp at hx, ?_⟩⟩⟩
  · have := h.len
    rw [usedN_append, List.length_append, List.length_singleton]
    simp only [List.length_nil] at this ⊢
    omega
  · rintro ⟨k, _, hk⟩
    exfalso
    rcases Nat.lt_or_ge k cs.length with h2 | h2
    · rw [List.getElem?_append_left h2] at hk
      exact hn k hk
    · rw [List.getElem?_append_right h2] at hk
      rcases Nat.eq_zero_or_pos (k - cs.length) with h3 | h3
      · rw [h3] at hk
        simp at hk
      · rw [List.getElem?_eq_none (by simp; omega)] at hk
        cases hk
theorem FreeOk.clear {cs : Cs} {fr l' : List Int} (h : FreeOk cs fr) (i : Nat) (n : Nd) (hi : cs[i]? = some (some n)) (hp : l'.Perm (fr ++ [(i : Int)])) : FreeOk (cs.set i none) l' := by
  have hlt : i < cs.length := (List.getElem?_eq_some_iff.1 hi).1
  have hl := hp.length_eq
  rw [List.length_append, List.length_singleton] at hl
  have hni : (i : Int) ∉ fr := fun hm => by
    obtain ⟨k, hk, hn⟩ := (h.mem _).1 hm
    obtain rfl : k = i := by omega
    rw [hi] at hn
    cases hn
  refine ⟨?_, ?_, fun x => ?_⟩
  · have := h.len
    have := usedN_clear cs i n hi
    rw [List.length_set]
    omega
  · refine hp.nodup_iff.2 ?_
    rw [List.nodup_append]
    refine ⟨h.dup, by simp, fun a ha b hb => ?_⟩
    obtain rfl : b = (i : Int) := by simpa using hb
    rintro rfl
    exact hni ha
  · rw [hp.mem_iff, List.mem_append, h.mem x]
    constructor
    · rintro (⟨k, hk, hn⟩ | hx)
      · have hne : k ≠ i := by
          rintro rfl
          rw [hi] at hn
          cases hn
        exact ⟨k, hk, by rw [List.getElem?_set_ne (Ne.symm hne)]; exact hn⟩
      · exact ⟨i, by simpa using hx, List.getElem?_set_self hlt⟩
    · rintro ⟨k, hk, hn⟩
      by_cases hne : k = i
      · right
        rw [hk, hne]
        simp
      · left
        rw [List.getElem?_set_ne (Ne.symm hne)] at hn
        exact ⟨k, hk, hn⟩
abbrev BX (w : World) (X : Nat → Prop) (v : Value) (l : List Int) : Prop := Kd.V (Kd.int .u8) 5 w 0 X v l
def RowOf (w : World) (X : Nat → Prop) (n : Nd) (r : List Value) : Prop := ∃ (A1 A2 A5 A9 : Option Addr) (c1 c2 c5 c9 : Nat), r = [.bool n.f0, .slice A1 n.f1.length c1, .slice A2 n.f2.length c2, .int .i64 n.f3, .int .i64 n.f4, .slice A5 n.f5.length c5, .int .i64 n.f6, .int .i64 n.f7, .int .i64 n.f8, .slice A9 n.f9.length c9] ∧
  BX w X (.slice A1 n.f1.length c1) n.f1 ∧ BX w X (.slice A2 n.f2.length c2) n.f2 ∧ BX w X (.slice A5 n.f5.length c5) n.f5 ∧ BX w X (.slice A9 n.f9.length c9) n.f9
theorem RowOf.step {w w1 : World} {X X1 : Nat → Prop} {n : Nd} {r : List Value} (h : RowOf w X n r) (hk : ∀ k, X k → k < w.heap.size → w1.heap[k]? = w.heap[k]?) (hX : ∀ k, X k → X1 k) : RowOf w1 X1 n r := by
  obtain ⟨A1, A2, A5, A9, c1, c2, c5, c9, e, h1, h2, h5, h9⟩ := h
  exact ⟨A1, A2, A5, A9, c1, c2, c5, c9, e, Kd.V_mono (Kd.V_step h1 hk) hX, Kd.V_mono (Kd.V_step h2 hk) hX, Kd.V_mono (Kd.V_step h5 hk) hX, Kd.V_mono (Kd.V_step h9 hk) hX⟩
def CellOk (w : World) (X : Nat → Prop) : Option Nd → List Value → Prop
  | none, r => ∃ t, r = .bool false :: t
  | some n, r => ∃ t, r = .bool true :: t ∧ RowOf w X n t
theorem CellOk.step {w w1 : World} {X X1 : Nat → Prop} {o : Option Nd} {r : List Value} (h : CellOk w X o r) (hk : ∀ k, X k → k < w.heap.size → w1.heap[k]? = w.heap[k]?) (hX : ∀ k, X k → X1 k) : CellOk w1 X1 o r := by
  cases o with
  | none => exact h
  | some n =>
    obtain ⟨t, e, hr⟩ := h
    exact ⟨t, e, hr.step hk hX⟩
def OwnS (p : Nat) (vc vf : Value) (k : Nat) : Prop := k = p ∨ some k = vc.ownBlock ∨ some k = vf.ownBlock
def Grew (w : World) (A B : Nat → Prop) : Prop := ∀ k, B k → A k ∨ w.heap.size ≤ k
theorem Grew.refl (w : World) (A : Nat → Prop) : Grew w A A := fun _ h => .inl h
theorem Grew.trans {w w1 : World} {A B C : Nat → Prop} (h : Grew w A B) (k : Grew w1 B C) (hs : w.heap.size ≤ w1.heap.size) : Grew w A C := fun x hx => (k x hx).elim (h x) (fun h1 => .inr (Nat.le_trans hs h1))
structure ArenaV (w : World) (base p : Nat) (size room : Int) (vc vf : Value) (X : Nat → Prop) (rows : List (List Value)) (fr : List Int) (cs : Cs) : Prop where
  blk : ABlk w p size room vc vf
  cells : CellsR w base vc rows
  free : FreeR w base vf fr
  heap : HeapN fr.length fr
  ok : FreeOk cs fr
  len : rows.length = cs.length
  row : ∀ (i : Nat) (o : Option Nd) (r : List Value), cs[i]? = some o → rows[i]? = some r → CellOk w X o r
  sep : ∀ k, X k → k < w.heap.size ∧ ¬ OwnS p vc vf k
structure ArenaM (w : World) (base p : Nat) (size room : Int) (vc vf : Value) (X : Nat → Prop) (cs : Cs) : Prop where
  mem : ∃ rows fr, ArenaV w base p size room vc vf X rows fr cs
  hb : base ≤ p
  hs : 1 ≤ size ∧ size ≤ 32
  hr : 1 ≤ room ∧ room ≤ 4194304
  hl : (cs.length : Int) ≤ room
theorem ArenaV.own_lt {w : World} {base p : Nat} {size room : Int} {vc vf : Value} {X : Nat → Prop} {rows : List (List Value)} {fr : List Int} {cs : Cs} (h : ArenaV w base p size room vc vf X rows fr cs) (k : Nat) (hk : OwnS p vc vf k) : k < w.heap.size := by
  rcases hk with rfl | hk | hk
  · exact h.blk.lt
  · exact Go.Proofs.YtdeneoknjeegbaaDoorW.PrintWords.own_lt (Kd.R_own h.cells).choose_spec k hk.symm
  · exact Go.Proofs.YtdeneoknjeegbaaDoorW.PrintWords.own_lt (Kd.R_own h.free).choose_spec k hk.symm
theorem ArenaV.step {w w1 : World} {base p : Nat} {size room : Int} {vc vf : Value} {X X1 : Nat → Prop} {rows : List (List Value)} {fr : List Int} {cs : Cs} (h : ArenaV w base p size room vc vf X rows fr cs) (hs : w.heap.size ≤ w1.heap.size) (hk : ∀ k, k < w.heap.size → OwnS p vc vf k ∨ X k → w1.heap[k]? = w.heap[k]?) (hX : ∀ k, X k → X1 k) (hX1 : ∀ k, X1 k → k < w1.heap.size ∧ ¬ OwnS p vc vf k) : ArenaV w1 base p size room vc vf X1 rows fr cs := by
  refine ⟨(hk p h.blk.lt (.inl (.inl rfl))).trans h.blk, ?_, ?_, h.heap, h.ok, h.len, fun i o r hi hr => (h.row i o r hi hr).step (fun k hx hl => hk k hl (.inr hx)) hX, hX1⟩
  · exact Kd.R_mono (Kd.R_step (Kd.R_reok (ok := fun k => some k = vc.ownBlock) rfl h.cells (fun k e => e.symm)) (fun k hx hl => hk k hl (.inl (.inr (.inl hx))))) (fun _ _ => trivial)
  · exact Kd.R_mono (Kd.R_step (Kd.R_reok (ok := fun k => some k = vf.ownBlock) rfl h.free (fun k e => e.symm)) (fun k hx hl => hk k hl (.inl (.inr (.inr hx))))) (fun _ _ => trivial)
theorem ArenaM.step {w w1 : World} {base p : Nat} {size room : Int} {vc vf : Value} {X X1 : Nat → Prop} {cs : Cs} (h : ArenaM w base p size room vc vf X cs) (hs : w.heap.size ≤ w1.heap.size) (hk : ∀ k, k < w.heap.size → OwnS p vc vf k ∨ X k → w1.heap[k]? = w.heap[k]?) (hX : ∀ k, X k → X1 k) (hX1 : ∀ k, X1 k → k < w1.heap.size ∧ ¬ OwnS p vc vf k) : ArenaM w1 base p size room vc vf X1 cs := by
  obtain ⟨rows, fr, hv⟩ := h.mem
  exact ⟨⟨rows, fr, hv.step hs hk hX hX1⟩, h.hb, h.hs, h.hr, h.hl⟩
theorem ArenaM.below {w w1 : World} {base p : Nat} {size room : Int} {vc vf : Value} {X : Nat → Prop} {cs : Cs} (h : ArenaM w base p size room vc vf X cs) (hb : Below w.heap.size w w1) : ArenaM w1 base p size room vc vf X cs := by
  obtain ⟨rows, fr, hv⟩ := h.mem
  exact h.step hb.size (fun k hk _ => hb.block k hk) (fun _ h => h) (fun k hx => ⟨Nat.lt_of_lt_of_le (hv.sep k hx).1 hb.size, (hv.sep k hx).2⟩)
def ArenaP (w w' : World) (base p : Nat) (size room : Int) (vc vf : Value) (X : Nat → Prop) (cs : Cs) : Prop :=
  ∃ vc' vf' X', ArenaM w' base p size room vc' vf' X' cs ∧ Grew w (OwnS p vc vf) (OwnS p vc' vf') ∧ Grew w X X' ∧ Kept w w' (OwnS p vc vf) ∧ Below base w w'
theorem ArenaP.of_below {w w' : World} {base p : Nat} {size room : Int} {vc vf : Value} {X : Nat → Prop} {cs : Cs} (h : ArenaM w base p size room vc vf X cs) (hb : Below w.heap.size w w') : ArenaP w w' base p size room vc vf X cs := by
  obtain ⟨rows, fr, hv⟩ := h.mem
  exact ⟨vc, vf, X, h.below hb, Grew.refl _ _, Grew.refl _ _, Kept.of_below hb _, hb.mono (by have := hv.blk.lt; have := h.hb; omega)⟩
set_option maxRecDepth 100000 in
theorem put_calls {w : World} {base p : Nat} {size room : Int} {vc vf : Value} {X : Nat → Prop} {cs : Cs} (h : ArenaM w base p size room vc vf X cs) (n : Nd) (A1 A2 A5 A9 : Option Addr) (c1 c2 c5 c9 : Nat)
    (b1 : BX w X (.slice A1 n.f1.length c1) n.f1) (b2 : BX w X (.slice A2 n.f2.length c2) n.f2) (b5 : BX w X (.slice A5 n.f5.length c5) n.f5) (b9 : BX w X (.slice A9 n.f9.length c9) n.f9) :
    Calls Tryd.prog 74 #[.pointer (some ⟨p, 0, none⟩), .agg #[.bool n.f0, .slice A1 n.f1.length c1, .slice A2 n.f2.length c2, .int .i64 n.f3, .int .i64 n.f4, .slice A5 n.f5.length c5, .int .i64 n.f6, .int .i64 n.f7, .int .i64 n.f8, .slice A9 n.f9.length c9]] w
      fun e w' => (if (usedN cs : Int) = room then e = .returned (.tuple #[.int .i64 0, .int .i64 4]) ∧ ArenaP w w' base p size room vc vf X cs else e = .returned (.tuple #[.int .i64 (lowN cs : Int), .int .i64 0]) ∧ ArenaP w w' base p size room vc vf X (putC cs n)) := by
  obtain ⟨rows, fr, hv⟩ := h.mem
  obtain ⟨A, c, rfl⟩ := Kd.R_slice hv.cells
  obtain ⟨A', c', rfl⟩ := Kd.R_slice hv.free
  have hs := h.hs
  have hr := h.hr
  have hl := h.hl
  have hlen := hv.len
  have hok := hv.ok.len
  have hbw : base ≤ w.heap.size := by have := hv.blk.lt; have := h.hb; omega
  have hrow : RowOf w X n [.bool n.f0, .slice A1 n.f1.length c1, .slice A2 n.f2.length c2, .int .i64 n.f3, .int .i64 n.f4, .slice A5 n.f5.length c5, .int .i64 n.f6, .int .i64 n.f7, .int .i64 n.f8, .slice A9 n.f9.length c9] := ⟨A1, A2, A5, A9, c1, c2, c5, c9, rfl, b1, b2, b5, b9⟩
  by_cases hfull : (usedN cs : Int) = room
  · refine (put_full n.f0 A1 A2 A5 A9 _ _ _ _ c1 c2 c5 c9 n.f3 n.f4 n.f6 n.f7 n.f8 hv.blk (by omega) (by omega) (by omega) (by omega) (by omega) (by omega)).mono ?_
    rintro e w' ⟨rfl, hb⟩
    rw [if_pos hfull]
    exact ⟨rfl, ArenaP.of_below h hb⟩
  · cases hfr : fr with
    | nil =>
      subst hfr
      have hg := hv.ok.grow n
      refine (put_grow (base := base) n.f0 A1 A2 A5 A9 _ _ _ _ c1 c2 c5 c9 n.f3 n.f4 n.f6 n.f7 n.f8 hv.blk hv.cells (by omega) h.hb (by simp only [List.length_nil] at hok; omega) hr.2).mono ?_
      rintro e w' ⟨rfl, v1, hb1, hR1, hat, hk, hbel⟩
      rw [if_neg hfull]
      have hT : Kept w w' (OwnS p (.slice A rows.length c) (.slice A' 0 c')) := ⟨hk.1, fun x hx hn => hk.2 x hx (fun e => hn (.inl e)) (fun e => hn (.inr (.inl e)))⟩
      have hgr : Grew w (OwnS p (.slice A rows.length c) (.slice A' 0 c')) (OwnS p v1 (.slice A' 0 c')) := fun x hx => by
        rcases hx with hx | hx | hx
        · exact .inl (.inl hx)
        · rcases hat with h1 | ⟨b, h1, h2⟩
          · exact .inl (.inr (.inl (hx.trans h1)))
          · rw [h1] at hx
            obtain rfl := Option.some.inj hx
            exact .inr h2
        · exact .inl (.inr (.inr hx))
      have hXs : ∀ k, X k → k < w.heap.size → w'.heap[k]? = w.heap[k]? := fun k hx hl => hT.2 k hl (hv.sep k hx).2
      refine ⟨by rw [hg.1, hlen], v1, _, X, ⟨?_, h.hb, hs, hr, ?_⟩, hgr, Grew.refl _ _, hT, hbel hbw⟩
      · refine ⟨_, [], hb1, hR1, ?_, fun k _ hk => by simp at hk, by unfold putC; rw [if_neg (by omega)]; exact hg.2, by unfold putC; rw [if_neg (by omega)]; simp [hlen], ?_, fun k hx => ⟨Nat.lt_of_lt_of_le (hv.sep k hx).1 hT.1, fun ho => (hgr k ho).elim (hv.sep k hx).2 (fun h1 => by have := (hv.sep k hx).1; omega)⟩⟩
        · refine Kd.R_mono (Kd.R_step (Kd.R_bound (Kd.R_types hv.free hv.blk (by decide))) (fun k hk1 hlt => ?_)) (fun _ _ => trivial)
          obtain ⟨⟨_, hkp⟩, _, _, q, hq, cells, hc⟩ := hk1
          have : q = 3 := by
            rcases List.mem_cons.1 hq with h | h
            · exact h
            · cases h
          subst this
          exact hk.2 k hlt hkp (Kd.R_ne hv.cells hc (by decide))
        · intro i o r hi hro
          unfold putC at hi
          rw [if_neg (by omega)] at hi
          rcases Nat.lt_or_ge i cs.length with h2 | h2
          · rw [List.getElem?_append_left h2] at hi
            rw [List.getElem?_append_left (by omega)] at hro
            exact (hv.row i o r hi hro).step hXs (fun _ h => h)
          · rw [List.getElem?_append_right h2] at hi
            rw [List.getElem?_append_right (by omega)] at hro
            have h3 : i - cs.length = 0 := by
              rcases Nat.eq_zero_or_pos (i - cs.length) with h3 | h3
              · exact h3
              · rw [List.getElem?_eq_none (by simp; omega)] at hi
                cases hi
            rw [h3] at hi
            rw [hlen, h3] at hro
            obtain rfl : some n = o := by simpa using hi
            obtain rfl := Option.some.inj hro
            exact ⟨_, rfl, hrow.step hXs (fun _ h => h)⟩
      · rw [putC_length, if_neg (by omega)]
        simp only [List.length_nil] at hok
        omega
    | cons x rest =>
      have h0 : 0 < fr.length := by rw [hfr]; simp
      obtain ⟨hlow, hlt⟩ := hv.ok.pop (l' := []) hv.heap h0
      obtain ⟨g, rfl⟩ : ∃ g, A' = some ⟨g, 0, none⟩ := by
        obtain ⟨ad, cc, e, hcl, hcK, hcc⟩ := Kd.C_get (FreeR.readsC hv.free) (0 : Int) 0 (by omega) (by omega)
        subst e
        obtain ⟨g, rfl⟩ := Kd.R_head hv.free
        exact ⟨g, rfl⟩
      obtain ⟨k, hk⟩ : ∃ k, fr.length = k + 1 := ⟨fr.length - 1, by omega⟩
      have hblk := hv.blk
      have hfree := hv.free
      have hheap := hv.heap
      rw [hk] at hblk hfree hheap
      refine (put_pop (base := base) n.f0 A1 A2 A5 A9 _ _ _ _ c1 c2 c5 c9 n.f3 n.f4 n.f6 n.f7 n.f8 hblk hv.cells hfree hheap (lowN cs) hlow (by omega) (by omega) h.hb (by omega) hr.1 hr.2 (by omega) (by omega)).mono ?_
      rintro e w' ⟨rfl, l', hb1, hR1, hF1, hH1, hP1, hkeep, hbel⟩
      rw [if_neg hfull]
      have hnone := lowN_none cs hlt
      have hT : Kept w w' (OwnS p (.slice A rows.length c) (.slice (some ⟨g, 0, none⟩) fr.length c')) := ⟨hbel.size, fun x hx hn => hkeep x hx (fun e => hn (.inl e)) (fun e => hn (.inr (.inr (by rw [own_some, e])))) (fun e => hn (.inr (.inl e)))⟩
      have hgr : Grew w (OwnS p (.slice A rows.length c) (.slice (some ⟨g, 0, none⟩) fr.length c')) (OwnS p (.slice A rows.length c) (.slice (some ⟨g, 0, none⟩) k c')) := fun x hx => by
        rcases hx with hx | hx | hx
        · exact .inl (.inl hx)
        · exact .inl (.inr (.inl hx))
        · exact .inl (.inr (.inr (by rw [own_some] at hx ⊢; exact hx)))
      have hXs : ∀ k, X k → k < w.heap.size → w'.heap[k]? = w.heap[k]? := fun k hx hl => hT.2 k hl (hv.sep k hx).2
      refine ⟨rfl, _, _, X, ⟨⟨_, l', hb1, hR1, hF1, hH1, ?_, ?_, ?_, fun k hx => ⟨Nat.lt_of_lt_of_le (hv.sep k hx).1 hT.1, fun ho => (hgr k ho).elim (hv.sep k hx).2 (fun h1 => by have := (hv.sep k hx).1; omega)⟩⟩, h.hb, hs, hr, ?_⟩, hgr, Grew.refl _ _, hT, hbel⟩
      · unfold putC
        rw [if_pos hlt]
        exact hv.ok.put (lowN cs) n hnone hP1
      · unfold putC
        rw [if_pos hlt, List.length_set, List.length_set, hlen]
      · intro i o r hi hro
        unfold putC at hi
        rw [if_pos hlt] at hi
        by_cases hie : i = lowN cs
        · subst hie
          rw [List.getElem?_set_self hlt] at hi
          rw [List.getElem?_set_self (by omega)] at hro
          obtain rfl := Option.some.inj hi
          obtain rfl := Option.some.inj hro
          exact ⟨_, rfl, hrow.step hXs (fun _ h => h)⟩
        · rw [List.getElem?_set_ne (Ne.symm hie)] at hi
          rw [List.getElem?_set_ne (Ne.symm hie)] at hro
          exact (hv.row i o r hi hro).step hXs (fun _ h => h)
      · rw [putC_length, if_pos hlt]
        exact hl
end Go.Proofs.YtdeneoknjeegbaaDoor.P
end
section
set_option linter.unusedVariables false
set_option linter.unusedSimpArgs false
namespace Go.Proofs.YtdeneoknjeegbaaDoor.P
open Go.RowKit Go.Proofs.YtdeneoknjeegbaaDoorW.PrintWords Go.Proofs.YtdeneoknjeegbaaDoorW.PrintLast Go.Proofs.YtdeneoknjeegbaaDoorW.PrintMore
def rd_bb (xs : List (List Int)) (i : Int) : List Int := xs.getD i.toNat []
theorem at_bb {w : World} {A : Option Addr} {n : Nat} {xs : List (List Int)} (h : Kd.C (Kd.slice 5 (Kd.int .u8)) w A n xs) (i : Int) (h0 : 0 ≤ i) (h1 : i < n) : ∃ ad A0 c0, A = some ad ∧ w.cell? (ad.add i.toNat) = some (.slice A0 (rd_bb xs i).length c0) ∧ (rd_bb xs i).length ≤ c0 ∧ (Kd.int .u8).C w A0 (rd_bb xs i).length (rd_bb xs i) := by
  obtain ⟨ad, c, e, _, hK, hc0⟩ := Kd.C_get h ([] : List Int) i h0 h1
  have hc : ∀ j u, c[j]? = some u → w.cell? (ad.add (i.toNat * 1 + j)) = some u := hc0
  obtain ⟨A0, c0, rfl, l0, g0⟩ := hK
  exact ⟨ad, A0, c0, e, by have hq := hc 0 _ rfl; rwa [Nat.mul_one, Nat.add_zero] at hq, l0, g0⟩
theorem long_calls (A : Option Addr) (n c : Nat) (w : World) :
    Calls Tryd.prog 101 #[.slice A n c] w fun e w' => e = .returned (.bool (decide (65535 < (n : Int)))) ∧ w' = w := by
  go_enter Tryd.func101, Tryd.ntmps101
  go_wp2_with fail
  go_ret
  exact ⟨rfl, rfl⟩
def isLong (p : List Int) : Bool := decide (65535 < (p.length : Int))
set_option maxHeartbeats 1000000 in
set_option maxRecDepth 100000 in
theorem index_long (A0 : Option Addr) (c0 : Nat) (l0 : List (List Int)) (w : World) (hr0 : Kd.C (Kd.slice 5 (Kd.int .u8)) w A0 l0.length l0) (hb : (l0.length : Int) ≤ 9223372036854775807) :
    Calls Tryd.prog 107 #[.slice A0 l0.length c0, .func (.func 101) #[] #[]] w fun e w' => ∃ i : Int, e = .returned (.int .i64 i) ∧ decide (0 ≤ i) = l0.any isLong ∧ w' = w := by
  have HR := Aside0.mk hr0
  clear hr0
  go_enter Tryd.func107, Tryd.ntmps107
  go_wp2_with fail
  go_loopw [8] (fun v8 wr => ∃ k : Nat, k ≤ l0.length ∧ v8 = .int .i64 (k : Int) ∧ wr = w ∧ Aside0 (l0.any isLong = (l0.drop k).any isLong)) (fun v8 _ => l0.length - (intOf v8).toNat)
  case atStart => exact ⟨0, by omega, rfl, rfl, ⟨by rw [List.drop_zero]⟩⟩
  case round =>
    obtain ⟨k, hk, rfl, rfl, HA⟩ := hrel
    by_cases hlt : k < l0.length
    · have hd : decide ((k : Int) < (l0.length : Int)) = true := by simp; omega
      obtain ⟨ad, A1, c1, rfl, hx, hc, hi⟩ := at_bb HR.out (k : Int) (by omega) (by omega)
      rw [Int.toNat_natCast] at hx
      have hdr : l0.drop k = rd_bb l0 k :: l0.drop (k + 1) := by
        rw [List.drop_eq_getElem_cons hlt]
        unfold rd_bb
        rw [List.getD_eq_getElem?_getD, Int.toNat_natCast, List.getElem?_eq_getElem hlt]
        rfl
      have HDR := Aside0.mk hdr
      clear hdr hi hc
      by_cases hL : 65535 < ((rd_bb l0 k).length : Int)
      · have hdL : decide (65535 < ((rd_bb l0 k).length : Int)) = true := decide_eq_true hL
        have HLL := Aside0.mk hL
        clear hL
        go_wp2_with fail
        refine (long_calls A1 _ c1 _).mono ?_
        rintro e1 w1 ⟨rfl, rfl⟩
        rw [hdL]
        go_wp2_with fail
        go_ret
        have hany : l0.any isLong = true := by rw [HA.out, HDR.out, List.any_cons, show isLong (rd_bb l0 k) = true from hdL]; rfl
        exact ⟨_, rfl, by rw [hany]; simp, rfl⟩
      · have hdL : decide (65535 < ((rd_bb l0 k).length : Int)) = false := decide_eq_false hL
        have HLL := Aside0.mk hL
        clear hL
        go_wp2_with fail
        refine (long_calls A1 _ c1 _).mono ?_
        rintro e1 w1 ⟨rfl, rfl⟩
        rw [hdL]
        go_wp2_with fail
        have hany : l0.any isLong = (l0.drop (k + 1)).any isLong := by rw [HA.out, HDR.out, List.any_cons, show isLong (rd_bb l0 k) = false from hdL]; rfl
        exact ⟨⟨k + 1, by omega, by go_num, trivial, ⟨hany⟩⟩, by simp only [intOf]; omega⟩
    · obtain rfl : k = l0.length := by omega
      have hd : decide ((l0.length : Int) < (l0.length : Int)) = false := by simp
      go_wp2_with fail
      go_ret
      exact ⟨_, rfl, by rw [HA.out, List.drop_length]; rfl, rfl⟩
def slices_ContainsFunc_byte_byte.f (l0 : List (List Int)) (a1 : Int) : Option Bool := some (l0.any isLong)
set_option maxRecDepth 100000 in
theorem slices_ContainsFunc_byte_byte.calls (A0 : Option Addr) (c0 : Nat) (l0 : List (List Int)) (a1 : Int) (r : Bool) (w : World) (hr0 : Kd.C (Kd.slice 5 (Kd.int .u8)) w A0 l0.length l0) (hc0 : l0.length ≤ c0) (h : slices_ContainsFunc_byte_byte.f l0 a1 = some r) :
    Calls Tryd.prog 102 #[.slice A0 l0.length c0, .func (.func 101) #[] #[]] w fun e w' => e = .returned (.bool r) ∧ Drawn0 w w' := by
  obtain rfl := Option.some.inj h
  have hb : (l0.length : Int) ≤ 9223372036854775807 := by have := hr0.2.1; omega
  go_enter Tryd.func102, Tryd.ntmps102
  go_wp2_with fail
  refine (index_long A0 c0 l0 w hr0 hb).mono ?_
  rintro e1 w1 ⟨i, rfl, hi, rfl⟩
  go_wp2_with fail
  go_ret
  exact ⟨by rw [← hi]; rfl, ⟨0, rfl⟩⟩
end Go.Proofs.YtdeneoknjeegbaaDoor.P
end
