/- Lemmas of this claim, part 15. -/
import Derived.Test.YtdeneoknjeegbaaDoorPartArenaSwept14
import Derived.Test.YtdeneoknjeegbaaDoorPartArenaSwept11
section
set_option linter.unusedVariables false
set_option linter.unusedSimpArgs false
namespace Go.Proofs.YtdeneoknjeegbaaDoor.P
open Go.RowKit Go.Proofs.YtdeneoknjeegbaaDoor.Pure Go.Proofs.YtdeneoknjeegbaaDoorW.PrintWords Go.Proofs.YtdeneoknjeegbaaDoorW.PrintLast Go.Proofs.YtdeneoknjeegbaaDoorW.PrintMore
def rleaf_T3 : Bool × List (List Nat × List Nat) := (true, [([], []), ([], []), ([], []), ([1, 2], [1, 2]), ([], []), ([], []), ([4, 5, 3], [4, 5]), ([], []), ([], []), ([], []), ([9], [9]), ([10], [10]), ([11], [11]), ([], []), ([], []), ([], []), ([12, 13, 14, 15, 6], [12, 13, 14, 15]), ([3, 6, 7, 8, 16], [3, 6, 7, 8, 16]), ([0, 17, 16], [0, 17]), ([18], [18]), ([18], [18]), ([19, 18, 0, 1, 2, 3, 4, 5, 6, 7, 8, 9, 10, 11, 12, 13, 14, 15, 16, 17, 18, 19, 20], [19]), ([20, 21, 0, 1, 2, 3, 4, 5, 6, 7, 8, 9, 10, 11, 12, 13, 14, 15, 16, 17, 18, 19, 20, 21], [20])])
def rleaf_B3 : List Nat := [0, 0, 0, 6, 0, 0, 62, 0, 0, 0, 512, 1536, 3584, 0, 0, 0, 65150, 131070, 262143, 524287, 524287, 2097151, 4194303]
theorem rleaf_tab3 : rtab .any (opsOf Tryd.f38 3) = rleaf_T3 := by kernel_rfl
theorem rleaf_bits3 : waitsOk rleaf_T3.2 rleaf_B3 = true := by kernel_rfl
theorem num8_len (x : Int) : (num8 x).length = 8 := rfl
theorem hashB_len (size tag : Int) (parts : List (List Int)) (hs : 1 ≤ size ∧ size ≤ 32) (h : parts.any isLong = false) : (hashB size tag parts).length = size.toNat := by
  unfold hashB
  rw [h, if_neg (by simp), List.length_take, shaSum_length]
  unfold mn mx
  split <;> split <;> omega
theorem lit0_new (cur : World) (base : Nat) (hb : base ≤ cur.heap.size) : ∃ g new, (cur.heap.size = g ∧ cur.alloc (.cells #[] 5) = new) ∧ (cur.heap.size = g ∧ g < new.heap.size ∧ Below cur.heap.size cur new) ∧ Kd.R (Kd.int .u8) 5 new base (fun _ => True) (.slice (some ⟨g, 0, none⟩) 0 0) [] := by
  refine ⟨_, _, ⟨rfl, rfl⟩, ⟨rfl, by simp, below_alloc (Below.refl _ _) _⟩, fun _ _ => trivial, [], ?_, Kd.reps_scalar ([] : List Int)⟩
  have h2 := World.ownsRow_lit (base := base) (e := 5) (size := 1) cur #[] 0 hb (by decide) (by rfl)
  exact h2
theorem app8_step {ops : Array Oper} {o : Oper} {a : Act} {Q : Exit → Act → World → Prop} {Kc : Act → World → Prop} {W : World} (base : Nat) (hw : Region.wanted o (yielded ops a.tmps) = true) (s x : Operand) {N : Tmp} (hd : o.dst = some N) (ho : o.op = .call { callee := .builtin .append, args := #[s, x], argTypes := #[31, 31] })
    (v : Value) (A : Option Addr) (m c : Nat) (ok : Nat → Prop) (hs : a.eval s = v) (hx : a.eval x = .slice A m c) (ys : List Int) (HO : Kd.R (Kd.int .u8) 5 W base ok v []) (HR : Kd.C (Kd.int .u8) W A m ys) (hfresh : ∀ k, W.heap.size ≤ k → ok k) (hbase : base ≤ W.heap.size) (hl : m ≤ 140737488355328)
    (h : ∀ B d w1, Kd.R (Kd.int .u8) 5 w1 base ok (.slice B ys.length d) ys → Below base W w1 → W.grownBy w1 v.ownBlock → Kc (a.put (some N) (.slice B ys.length d)) w1) :
    if Region.wanted o (yielded ops a.tmps) = true then Oper.wp Tryd.prog o a W Kc Q else Kc (a.put (some N) undef) W := by
  have := Kd.R_append_rows_step (P := Tryd.prog) (Q := Q) (Kc := Kc) (Kd.int .u8) (w0 := W) base hw s x 31 5 (.int .u8 0) 1 ho Tryd.underlying31 (by kernel_rfl) rfl (by decide) (by omega) v [] ys A m c ok (fun _ => False) hs hx HO HR (fun _ _ h => h) (fun _ h => h.elim) hfresh (Below.refl _ _) hbase (by simp only [List.length_nil]; omega) (fun v1 w1 hR hB hg hat => by
    obtain ⟨B, d, rfl⟩ := Kd.R_slice hR
    rw [hd]
    exact h B d w1 hR hB hg)
  rwa [hd] at this
structure RPost (c : Prop) (w w' : World) (base q : Nat) (size most : Int) (vl : Value) (X : Nat → Prop) (cs : Cs) (n : Nd) (e : Ending) : Prop where
  bad : c → e = .returned (.tuple #[.int .i64 0, .int .i64 1]) ∧ RefP w w' base q size most vl X cs
  full : ¬ c → (usedN cs : Int) = most → e = .returned (.tuple #[.int .i64 0, .int .i64 4]) ∧ RefP w w' base q size most vl X cs
  ok : ¬ c → (usedN cs : Int) ≠ most → e = .returned (.tuple #[.int .i64 (lowN cs : Int), .int .i64 0]) ∧ RefP w w' base q size most vl X (putC cs n)
set_option maxHeartbeats 8000000 in
set_option maxRecDepth 100000 in
theorem rleaf_calls {w : World} {base q : Nat} {size most : Int} {vl : Value} {X : Nat → Prop} {cs : Cs} (h : RefM w base q size most vl X cs) (A1 A2 : Option Addr) (c1 c2 : Nat) (l1 l2 : List Int) (since : Int)
    (b1 : BX w X (.slice A1 l1.length c1) l1) (b2 : BX w X (.slice A2 l2.length c2) l2) (o1 : BytesOk l1) (o2 : BytesOk l2) :
    Calls Tryd.prog 38 #[.pointer (some ⟨q, 0, none⟩), .slice A1 l1.length c1, .slice A2 l2.length c2, .int .i64 since] w
      fun e w' => RPost (since < 0 ∨ 65535 < l1.length ∨ 65535 < l2.length) w w' base q size most vl X cs (leafNd size l1 l2 since) e := by
  have HM := Aside0.mk h
  have HBW := Aside0.mk h.base_le
  have H1 := Aside0.mk b1
  have H2 := Aside0.mk b2
  have HO1 := Aside0.mk o1
  have HO2 := Aside0.mk o2
  have H1C := Aside0.mk (show ∀ W, Below w.heap.size w W → Kd.C (Kd.int .u8) W A1 l1.length l1 from fun W hb => (Kd.V_reads' (Kd.V_below b1 hb)).2.2)
  have H2C := Aside0.mk (show ∀ W, Below w.heap.size w W → Kd.C (Kd.int .u8) W A2 l2.length l2 from fun W hb => (Kd.V_reads' (Kd.V_below b2 hb)).2.2)
  have HQ : ∃ vl, QBlk w q size most vl := by
    obtain ⟨rows, hv⟩ := h.mem
    exact ⟨_, hv.blk⟩
  obtain ⟨vl0, hq⟩ := HQ
  have HSOK := Aside0.mk (show ∀ W, Below w.heap.size w W → W.cell? ⟨q, 0, none⟩ = some (.int .i64 size) from fun W hb => (hq.below hb).cells.1)
  clear h b1 b2 o1 o2 hq vl0
  by_cases h0 : since < 0
  · have hd1 := decide_eq_true h0
    have HC := Aside0.mk (show since < 0 ∨ 65535 < l1.length ∨ 65535 < l2.length from .inl h0)
    go_enter Tryd.func38, Tryd.ntmps38
    go_wp2_with fail
    go_ret2
    exact ⟨fun _ => ⟨rfl, RefP.of_below HM.out (Below.refl _ _)⟩, fun h => absurd HC.out h, fun h => absurd HC.out h⟩
  have hd1 := decide_eq_false h0
  by_cases h1 : (l1.length : Int) > 65535
  · have hd2 := decide_eq_true h1
    have hd3 : decide (65535 < l1.length) = true := decide_eq_true (by omega)
    have HC := Aside0.mk (show since < 0 ∨ 65535 < l1.length ∨ 65535 < l2.length from .inr (.inl (by omega)))
    go_enter Tryd.func38, Tryd.ntmps38
    go_wp2_with fail
    go_ret2
    exact ⟨fun _ => ⟨rfl, RefP.of_below HM.out (Below.refl _ _)⟩, fun h => absurd HC.out h, fun h => absurd HC.out h⟩
  have hd2 := decide_eq_false h1
  have hd3 : decide (65535 < l1.length) = false := decide_eq_false (by omega)
  by_cases h2 : (l2.length : Int) > 65535
  · have hd4 := decide_eq_true h2
    have hd5 : decide (65535 < l2.length) = true := decide_eq_true (by omega)
    have HC := Aside0.mk (show since < 0 ∨ 65535 < l1.length ∨ 65535 < l2.length from .inr (.inr (by omega)))
    go_enter Tryd.func38, Tryd.ntmps38
    go_wp2_with fail
    go_ret2
    exact ⟨fun _ => ⟨rfl, RefP.of_below HM.out (Below.refl _ _)⟩, fun h => absurd HC.out h, fun h => absurd HC.out h⟩
  have hd4 := decide_eq_false h2
  have hd5 : decide (65535 < l2.length) = false := decide_eq_false (by omega)
  have HC := Aside0.mk (show ¬ (since < 0 ∨ 65535 < l1.length ∨ 65535 < l2.length) from by omega)
  have HLEN := Aside0.mk (show l1.length ≤ 65535 ∧ l2.length ≤ 65535 from by omega)
  go_enter Tryd.func38, Tryd.ntmps38
  go_wp2_with fail
  clear hd1 hd2 hd3 hd4 hd5 h0 h1 h2
  refine start_ (n := 23) (S := fun w' => w'.cell? ⟨q, 0, none⟩ = some (.int .i64 size)) (ds := []) #[false, false, false, false, false, false, false, false, false, false, false, false, false, false, false, false, false, false, false, false, false, false, false] (by kernel_rfl) rfl rfl (HSOK.out _ (below_drew (Below.refl _ _))) (fun hHeld => ?_); refine with_tabW rleaf_tab3 rleaf_bits3 (fun HT_ HW_ => ?_)
  have HB0 := Aside0.mk (show Below w.heap.size w w.drew from below_drew (Below.refl _ _))
  generalize hgw : w.drew = w1 at HB0 hHeld ⊢
  clear hgw
  refine pure_ (i := 0) (N := some 22) (v := ?_) (a' := ?_) #[true, false, false, false, false, false, false, false, false, false, false, false, false, false, false, false, false, false, false, false, false, false, false] rfl rfl (any_of HT_.out (by kernel_rfl)) (fun _ _ _ h => h) (Or.inl ⟨by rfl, ?_⟩) ?_ ?_
  rotate_left
  · intro w'
    go_simp
    with_reducible rfl
  rotate_left
  · simp only [Act.put, List.setIfInBounds_toArray, List.set_cons_zero, List.set_cons_succ, i64_w, i32_w]
    rfl
  refine pure_ (i := 2) (N := some 24) (v := ?_) (a' := ?_) #[true, false, true, false, false, false, false, false, false, false, false, false, false, false, false, false, false, false, false, false, false, false, false] rfl rfl (any_of HT_.out (by kernel_rfl)) (fun _ _ _ h => h) (Or.inl ⟨by rfl, ?_⟩) ?_ ?_
  rotate_left
  · intro w'
    go_simp
    with_reducible rfl
  rotate_left
  · simp only [Act.put, List.setIfInBounds_toArray, List.set_cons_zero, List.set_cons_succ, i64_w, i32_w]
    rfl
  refine pure_ (i := 5) (N := some 27) (v := ?_) (a' := ?_) #[true, false, true, false, false, true, false, false, false, false, false, false, false, false, false, false, false, false, false, false, false, false, false] rfl rfl (any_of HT_.out (by kernel_rfl)) (fun _ _ _ h => h) (Or.inl ⟨by rfl, ?_⟩) ?_ ?_
  rotate_left
  · intro w'
    go_simp
    with_reducible rfl
  rotate_left
  · simp only [Act.put, List.setIfInBounds_toArray, List.set_cons_zero, List.set_cons_succ, i64_w, i32_w]
    rfl
  refine pure_ (i := 7) (N := some 29) (v := ?_) (a' := ?_) #[true, false, true, false, false, true, false, true, false, false, false, false, false, false, false, false, false, false, false, false, false, false, false] rfl rfl (any_of HT_.out (by kernel_rfl)) (fun _ _ _ h => h) (Or.inl ⟨by rfl, ?_⟩) ?_ ?_
  rotate_left
  · intro w'
    go_simp
    with_reducible rfl
  rotate_left
  · simp only [Act.put, List.setIfInBounds_toArray, List.set_cons_zero, List.set_cons_succ, i64_w, i32_w]
    rfl
  refine pure_ (i := 8) (N := some 30) (v := ?_) (a' := ?_) #[true, false, true, false, false, true, false, true, true, false, false, false, false, false, false, false, false, false, false, false, false, false, false] rfl rfl (any_of HT_.out (by kernel_rfl)) (fun _ _ _ h => h) (Or.inl ⟨by rfl, ?_⟩) ?_ ?_
  rotate_left
  · intro w'
    go_simp
    with_reducible rfl
  rotate_left
  · simp only [Act.put, List.setIfInBounds_toArray, List.set_cons_zero, List.set_cons_succ, i64_w, i32_w]
    rfl
  refine pure_ (i := 9) (N := some 31) (v := ?_) (a' := ?_) #[true, false, true, false, false, true, false, true, true, true, false, false, false, false, false, false, false, false, false, false, false, false, false] rfl rfl (any_of HT_.out (by kernel_rfl)) (fun _ _ _ h => h) (Or.inl ⟨by rfl, ?_⟩) ?_ ?_
  rotate_left
  · intro w'
    go_simp
    with_reducible rfl
  rotate_left
  · simp only [Act.put, List.setIfInBounds_toArray, List.set_cons_zero, List.set_cons_succ, i64_w, i32_w]
    rfl
  refine pure_ (i := 10) (N := some 32) (v := ?_) (a' := ?_) #[true, false, true, false, false, true, false, true, true, true, true, false, false, false, false, false, false, false, false, false, false, false, false] rfl rfl (any_of HT_.out (by kernel_rfl)) (fun _ _ _ h => h) (Or.inl ⟨by rfl, ?_⟩) ?_ ?_
  rotate_left
  · intro w'
    go_simp
    with_reducible rfl
  rotate_left
  · simp only [Act.put, List.setIfInBounds_toArray, List.set_cons_zero, List.set_cons_succ, i64_w, i32_w]
    rfl
  refine pure_ (i := 11) (N := some 33) (v := ?_) (a' := ?_) #[true, false, true, false, false, true, false, true, true, true, true, true, false, false, false, false, false, false, false, false, false, false, false] rfl rfl (any_of HT_.out (by kernel_rfl)) (fun _ _ _ h => h) (Or.inl ⟨by rfl, ?_⟩) ?_ ?_
  rotate_left
  · intro w'
    go_simp
    with_reducible rfl
  rotate_left
  · simp only [Act.put, List.setIfInBounds_toArray, List.set_cons_zero, List.set_cons_succ, i64_w, i32_w]
    rfl
  refine take_ (i := 12) (N := some 34) (v := ?_) (a' := ?_) #[true, false, true, false, false, true, false, true, true, true, true, true, true, false, false, false, false, false, false, false, false, false, false] rfl rfl (take_ofW HT_.out HW_.out (by kernel_rfl)) (fun _ _ _ h => h) (Or.inl ⟨by rfl, ?_⟩) hHeld ?_ ?_
  rotate_left
  · rintro w' s0
    go_simp
    with_reducible rfl
  rotate_left
  · simp only [Act.put, List.setIfInBounds_toArray, List.set_cons_zero, List.set_cons_succ, i64_w, i32_w]
    rfl
  refine pure_ (i := 13) (N := some 35) (v := ?_) (a' := ?_) #[true, false, true, false, false, true, false, true, true, true, true, true, true, true, false, false, false, false, false, false, false, false, false] rfl rfl (any_of HT_.out (by kernel_rfl)) (fun _ _ _ h => h) (Or.inl ⟨by rfl, ?_⟩) ?_ ?_
  rotate_left
  · intro w'
    go_simp
    with_reducible rfl
  rotate_left
  · simp only [Act.put, List.setIfInBounds_toArray, List.set_cons_zero, List.set_cons_succ, i64_w, i32_w]
    rfl
  refine pure_ (i := 14) (N := some 36) (v := ?_) (a' := ?_) #[true, false, true, false, false, true, false, true, true, true, true, true, true, true, true, false, false, false, false, false, false, false, false] rfl rfl (any_of HT_.out (by kernel_rfl)) (fun _ _ _ h => h) (Or.inl ⟨by rfl, ?_⟩) ?_ ?_
  rotate_left
  · intro w'
    go_simp
    with_reducible rfl
  rotate_left
  · simp only [Act.put, List.setIfInBounds_toArray, List.set_cons_zero, List.set_cons_succ, i64_w, i32_w]
    rfl
  refine pure_ (i := 15) (N := some 37) (v := ?_) (a' := ?_) #[true, false, true, false, false, true, false, true, true, true, true, true, true, true, true, true, false, false, false, false, false, false, false] rfl rfl (any_of HT_.out (by kernel_rfl)) (fun _ _ _ h => h) (Or.inl ⟨by rfl, ?_⟩) ?_ ?_
  rotate_left
  · intro w'
    go_simp
    with_reducible rfl
  rotate_left
  · simp only [Act.put, List.setIfInBounds_toArray, List.set_cons_zero, List.set_cons_succ, i64_w, i32_w]
    rfl
  refine join_ (σ := Nat × Option Addr × Nat × Nat) 8 #[true, true, true, true, true, true, false, true, true, true, true, true, true, true, true, true, false, false, false, false, false, false, false] (fun s_ => [(23, .slice (some ⟨s_.1, 0, none⟩) 0 0), (25, .slice s_.2.1 l1.length s_.2.2.1), (26, .slice (some ⟨s_.2.2.2, 0, none⟩) 0 0)]) (fun s_ w' => Kd.R (Kd.int .u8) 5 w' w.heap.size (fun k => k ≠ s_.2.2.2) (.slice s_.2.1 l1.length s_.2.2.1) l1 ∧ Kd.R (Kd.int .u8) 5 w' w.heap.size (fun _ => True) (.slice (some ⟨s_.2.2.2, 0, none⟩) 0 0) [] ∧ Below w.heap.size w w') ?_ ?_
  rotate_left
  · intro hCont
    refine two_ (i := 1) (j := 4) (Ni := some 23) (Nj := some 26) #[true, true, true, false, false, true, false, true, true, true, true, true, true, true, true, true, false, false, false, false, false, false, false] #[true, false, true, false, true, true, false, true, true, true, true, true, true, true, true, true, false, false, false, false, false, false, false] rfl rfl rfl rfl (two_of HT_.out (by kernel_rfl)) (by decide) (by decide) (fun K hK => ?_) (fun K hK => ?_)
    · skip
      refine value_ (v := .slice (some ⟨w1.heap.size, 0, none⟩) 0 0) (w1 := w1.alloc (.cells #[] 5)) (by rfl) rfl ?_ ?_
      · (go_simp <;> first | rfl | done)
      obtain ⟨g1, wa, hal, hsz, hr1⟩ := lit0_new w1 w.heap.size HB0.out.size
      rw [hal.1, hal.2]
      clear hal
      refine hK.out _ _ (HSOK.out _ (HB0.out.trans (hsz.2.2.mono HB0.out.size))) (fun hHeld => ?_)
      clear hK K
      refine norm_ (a' := ?_) ?_ ?_
      rotate_left
      · show Act.put _ (some 23) _ = _
        simp only [Act.put, List.setIfInBounds_toArray, List.set_cons_zero, List.set_cons_succ, i64_w, i32_w]
        rfl
      have HBa := Aside0.mk (HB0.out.trans (hsz.2.2.mono HB0.out.size))
      have HSa := Aside0.mk hsz
      have HR1 := Aside0.mk hr1
      clear hr1 hsz
      refine two_ (i := 3) (j := 4) (Ni := some 25) (Nj := some 26) #[true, true, true, true, false, true, false, true, true, true, true, true, true, true, true, true, false, false, false, false, false, false, false] #[true, true, true, false, true, true, false, true, true, true, true, true, true, true, true, true, false, false, false, false, false, false, false] rfl rfl rfl rfl (two_of HT_.out (by kernel_rfl)) (by decide) (by decide) (fun K hK => ?_) (fun K hK => ?_)
      · skip
        refine app8_step w.heap.size (by rfl) (.tmp 23) (.tmp 24) rfl rfl (.slice (some ⟨g1, 0, none⟩) 0 0) A1 l1.length c1 (fun _ => True) rfl rfl l1 HR1.out (H1C.out _ HBa.out) (fun _ _ => trivial) HBa.out.size (by have := HLEN.out; omega) ?_
        intro B1 d1 wb hr hx hg
        refine hK.out _ _ (HSOK.out _ (HBa.out.trans hx)) (fun hHeld => ?_)
        clear hK K
        refine norm_ (a' := ?_) ?_ ?_
        rotate_left
        · show Act.put _ (some 25) _ = _
          simp only [Act.put, List.setIfInBounds_toArray, List.set_cons_zero, List.set_cons_succ, i64_w, i32_w]
          rfl
        have HBb := Aside0.mk (HBa.out.trans hx)
        have HRc := Aside0.mk hr
        clear hr hx hg
        refine one_ (i := 4) (N := some 26) #[true, true, true, true, true, true, false, true, true, true, true, true, true, true, true, true, false, false, false, false, false, false, false] rfl rfl (one_of HT_.out (by kernel_rfl)) (by decide) (fun K hK => ?_)
        refine value_ (v := .slice (some ⟨wb.heap.size, 0, none⟩) 0 0) (w1 := wb.alloc (.cells #[] 5)) (by rfl) rfl ?_ ?_
        · (go_simp <;> first | rfl | done)
        obtain ⟨g2, wc, hal, hsz, hr2⟩ := lit0_new wb w.heap.size HBb.out.size
        rw [hal.1, hal.2]
        clear hal
        refine hK.out _ _ (HSOK.out _ (HBb.out.trans (hsz.2.2.mono HBb.out.size))) (fun hHeld => ?_)
        clear hK K
        refine norm_ (a' := ?_) ?_ ?_
        rotate_left
        · show Act.put _ (some 26) _ = _
          simp only [Act.put, List.setIfInBounds_toArray, List.set_cons_zero, List.set_cons_succ, i64_w, i32_w]
          rfl
        have HBq := Aside0.mk (HBb.out.trans (hsz.2.2.mono HBb.out.size))
        have HRb := Aside0.mk hr2
        have HRa := Aside0.mk (Kd.R_mono (Kd.R_below (Kd.R_bound HRc.out) hsz.2.2) (ok' := fun k => k ≠ g2) (fun k hk => by have h1 := hk.2.1; have h2 := hsz.1; omega))
        clear hr2 hsz HRc
        exact norm_ (by simp only [putAll, Act.put, List.setIfInBounds_toArray, List.set_cons_zero, List.set_cons_succ]) (hCont (g1, B1, d1, g2) _ ⟨HRa.out, HRb.out, HBq.out⟩)
      · skip
        refine value_ (v := .slice (some ⟨wa.heap.size, 0, none⟩) 0 0) (w1 := wa.alloc (.cells #[] 5)) (by rfl) rfl ?_ ?_
        · (go_simp <;> first | rfl | done)
        obtain ⟨g2, wb, hal, hsz, hr2⟩ := lit0_new wa w.heap.size HBa.out.size
        rw [hal.1, hal.2]
        clear hal
        refine hK.out _ _ (HSOK.out _ (HBa.out.trans (hsz.2.2.mono HBa.out.size))) (fun hHeld => ?_)
        clear hK K
        refine norm_ (a' := ?_) ?_ ?_
        rotate_left
        · show Act.put _ (some 26) _ = _
          simp only [Act.put, List.setIfInBounds_toArray, List.set_cons_zero, List.set_cons_succ, i64_w, i32_w]
          rfl
        have HBb := Aside0.mk (HBa.out.trans (hsz.2.2.mono HBa.out.size))
        have HRd := Aside0.mk hr2
        have HSb := Aside0.mk hsz
        have HR1b := Aside0.mk (Kd.R_reok (ok := fun k => k ≠ g2) rfl (Kd.R_below HR1.out hsz.2.2) (fun k e => by rw [own_some] at e; have e := Option.some.inj e; have h1 := HSa.out.2.1; have h2 := hsz.1; omega))
        clear hr2 hsz
        refine one_ (i := 3) (N := some 25) #[true, true, true, true, true, true, false, true, true, true, true, true, true, true, true, true, false, false, false, false, false, false, false] rfl rfl (one_of HT_.out (by kernel_rfl)) (by decide) (fun K hK => ?_)
        refine app8_step w.heap.size (by rfl) (.tmp 23) (.tmp 24) rfl rfl (.slice (some ⟨g1, 0, none⟩) 0 0) A1 l1.length c1 (fun k => k ≠ g2) rfl rfl l1 HR1b.out (H1C.out _ HBb.out) (fun k hk => by have := HSb.out.2.1; omega) HBb.out.size (by have := HLEN.out; omega) ?_
        intro B1 d1 wc hr hx hg
        refine hK.out _ _ (HSOK.out _ (HBb.out.trans hx)) (fun hHeld => ?_)
        clear hK K
        refine norm_ (a' := ?_) ?_ ?_
        rotate_left
        · show Act.put _ (some 25) _ = _
          simp only [Act.put, List.setIfInBounds_toArray, List.set_cons_zero, List.set_cons_succ, i64_w, i32_w]
          rfl
        have HBq := Aside0.mk (HBb.out.trans hx)
        have HRa := Aside0.mk hr
        have HRb := Aside0.mk (Kd.R_mono (Kd.R_step (Kd.R_reok (ok := fun k => k = g2) rfl HRd.out (fun k e => by rw [own_some] at e; exact (Option.some.inj e).symm)) (fun k hk hl => hg.block k hl (fun e => by rw [own_some] at e; have e := Option.some.inj e; have h1 := HSa.out.2.1; have h2 := HSb.out.1; omega))) (fun _ _ => trivial))
        clear hr hx hg
        exact norm_ (by simp only [putAll, Act.put, List.setIfInBounds_toArray, List.set_cons_zero, List.set_cons_succ]) (hCont (g1, B1, d1, g2) _ ⟨HRa.out, HRb.out, HBq.out⟩)
    · skip
      refine value_ (v := .slice (some ⟨w1.heap.size, 0, none⟩) 0 0) (w1 := w1.alloc (.cells #[] 5)) (by rfl) rfl ?_ ?_
      · (go_simp <;> first | rfl | done)
      obtain ⟨g2, wa, hal, hsz, hr2⟩ := lit0_new w1 w.heap.size HB0.out.size
      rw [hal.1, hal.2]
      clear hal
      refine hK.out _ _ (HSOK.out _ (HB0.out.trans (hsz.2.2.mono HB0.out.size))) (fun hHeld => ?_)
      clear hK K
      refine norm_ (a' := ?_) ?_ ?_
      rotate_left
      · show Act.put _ (some 26) _ = _
        simp only [Act.put, List.setIfInBounds_toArray, List.set_cons_zero, List.set_cons_succ, i64_w, i32_w]
        rfl
      have HBa := Aside0.mk (HB0.out.trans (hsz.2.2.mono HB0.out.size))
      have HSa := Aside0.mk hsz
      have HR2 := Aside0.mk hr2
      clear hr2 hsz
      refine one_ (i := 1) (N := some 23) #[true, true, true, false, true, true, false, true, true, true, true, true, true, true, true, true, false, false, false, false, false, false, false] rfl rfl (one_of HT_.out (by kernel_rfl)) (by decide) (fun K hK => ?_)
      refine value_ (v := .slice (some ⟨wa.heap.size, 0, none⟩) 0 0) (w1 := wa.alloc (.cells #[] 5)) (by rfl) rfl ?_ ?_
      · (go_simp <;> first | rfl | done)
      obtain ⟨g1, wb, hal, hsz, hr1⟩ := lit0_new wa w.heap.size HBa.out.size
      rw [hal.1, hal.2]
      clear hal
      refine hK.out _ _ (HSOK.out _ (HBa.out.trans (hsz.2.2.mono HBa.out.size))) (fun hHeld => ?_)
      clear hK K
      refine norm_ (a' := ?_) ?_ ?_
      rotate_left
      · show Act.put _ (some 23) _ = _
        simp only [Act.put, List.setIfInBounds_toArray, List.set_cons_zero, List.set_cons_succ, i64_w, i32_w]
        rfl
      have HBb := Aside0.mk (HBa.out.trans (hsz.2.2.mono HBa.out.size))
      have HSb := Aside0.mk hsz
      have HR1b := Aside0.mk (Kd.R_reok (ok := fun k => k ≠ g2) rfl hr1 (fun k e => by rw [own_some] at e; have e := Option.some.inj e; have h1 := HSa.out.2.1; have h2 := hsz.1; omega))
      have HRd := Aside0.mk (Kd.R_below HR2.out hsz.2.2)
      clear hr1 hsz
      refine one_ (i := 3) (N := some 25) #[true, true, true, true, true, true, false, true, true, true, true, true, true, true, true, true, false, false, false, false, false, false, false] rfl rfl (one_of HT_.out (by kernel_rfl)) (by decide) (fun K hK => ?_)
      refine app8_step w.heap.size (by rfl) (.tmp 23) (.tmp 24) rfl rfl (.slice (some ⟨g1, 0, none⟩) 0 0) A1 l1.length c1 (fun k => k ≠ g2) rfl rfl l1 HR1b.out (H1C.out _ HBb.out) (fun k hk => by have := HSa.out.2.1; have := HSb.out.2.1; have := HSb.out.1; omega) HBb.out.size (by have := HLEN.out; omega) ?_
      intro B1 d1 wc hr hx hg
      refine hK.out _ _ (HSOK.out _ (HBb.out.trans hx)) (fun hHeld => ?_)
      clear hK K
      refine norm_ (a' := ?_) ?_ ?_
      rotate_left
      · show Act.put _ (some 25) _ = _
        simp only [Act.put, List.setIfInBounds_toArray, List.set_cons_zero, List.set_cons_succ, i64_w, i32_w]
        rfl
      have HBq := Aside0.mk (HBb.out.trans hx)
      have HRa := Aside0.mk hr
      have HRb := Aside0.mk (Kd.R_mono (Kd.R_step (Kd.R_reok (ok := fun k => k = g2) rfl HRd.out (fun k e => by rw [own_some] at e; exact (Option.some.inj e).symm)) (fun k hk hl => hg.block k hl (fun e => by rw [own_some] at e; have e := Option.some.inj e; have h1 := HSa.out.2.1; have h2 := HSb.out.1; omega))) (fun _ _ => trivial))
      clear hr hx hg
      exact norm_ (by simp only [putAll, Act.put, List.setIfInBounds_toArray, List.set_cons_zero, List.set_cons_succ]) (hCont (g1, B1, d1, g2) _ ⟨HRa.out, HRb.out, HBq.out⟩)
  rintro ⟨g1, B1, d1, g2⟩ wq ⟨hra, hrb, hbq⟩
  have hHeld := HSOK.out _ hbq
  have HRa := Aside0.mk hra
  have HRb := Aside0.mk hrb
  have HBq := Aside0.mk hbq
  clear hra hrb hbq
  refine norm_ (a' := ?_) ?_ ?_
  rotate_left
  · simp only [putAll, Act.put, List.setIfInBounds_toArray, List.set_cons_zero, List.set_cons_succ]
    rfl
  refine one_ (i := 6) (N := some 28) #[true, true, true, true, true, true, true, true, true, true, true, true, true, true, true, true, false, false, false, false, false, false, false] rfl rfl (one_of HT_.out (by kernel_rfl)) (by decide) (fun K hK => ?_)
  refine app8_step w.heap.size (by rfl) (.tmp 26) (.tmp 27) rfl rfl (.slice (some ⟨g2, 0, none⟩) 0 0) A2 l2.length c2 (fun _ => True) rfl rfl l2 HRb.out (H2C.out _ HBq.out) (fun _ _ => trivial) HBq.out.size (by have := HLEN.out; omega) ?_
  intro B2 d2 wz hr hx hg
  refine hK.out _ _ (HSOK.out _ (HBq.out.trans hx)) (fun hHeld => ?_)
  clear hK K
  refine norm_ (a' := ?_) ?_ ?_
  rotate_left
  · show Act.put _ (some 28) _ = _
    simp only [Act.put, List.setIfInBounds_toArray, List.set_cons_zero, List.set_cons_succ, i64_w, i32_w]
    rfl
  have HBz := Aside0.mk (HBq.out.trans hx)
  have HR2 := Aside0.mk hr
  have HR1 := Aside0.mk (Kd.R_mono (Kd.R_step HRa.out (fun k hk hl => hg.block k hl (fun e => by rw [own_some] at e; exact hk (Option.some.inj e)))) (ok' := fun _ => True) (fun _ _ => trivial))
  clear hr hx hg HRa HRb HBq
  refine one_ (i := 16) (N := some 38) #[true, true, true, true, true, true, true, true, true, true, true, true, true, true, true, true, true, false, false, false, false, false, false] rfl rfl (one_of HT_.out (by kernel_rfl)) (by decide) (fun K hK => ?_)
  refine goes_ Tryd.func76 (by kernel_rfl) rfl #[.int .i64 size, .slice A1 l1.length c1, .slice A2 l2.length c2, .int .i64 since] (by rfl) rfl rfl (by (try simp only [List.map_toArray, List.map_cons, List.map_nil]); first | done | rfl) ?_
  refine (annalsref09_LeafHash.calls 9 size (fun k => X k ∧ k < w.heap.size) A1 c1 l1 (fun k => X k ∧ k < w.heap.size) A2 c2 l2 since (hashB size 1 [l1, l2, num8 since]) wz (Kd.V_below (Kd.V_bound H1.out) HBz.out) (Kd.V_below (Kd.V_bound H2.out) HBz.out) (rleaf_f 9 (by decide) size l1 l2 since HO1.out HO2.out)).mono ?_
  obtain ⟨lh, hlh⟩ : ∃ lh, lh = hashB size 1 [l1, l2, num8 since] := ⟨_, rfl⟩
  rw [← hlh]
  have HLH := Aside0.mk hlh
  clear hlh
  rintro e3 wy ⟨v, rfl, hR9, hB9⟩
  obtain ⟨B9, d9, rfl⟩ := Kd.R_slice hR9
  refine ⟨_, rfl, ?_⟩
  have HR9 := Aside0.mk hR9
  have HB9 := Aside0.mk hB9
  have HBy := Aside0.mk (HBz.out.trans (hB9.mono HBz.out.size))
  clear hR9 hB9
  refine hK.out _ _ (HSOK.out _ HBy.out) (fun hHeld => ?_)
  clear hK K
  refine norm_ (a' := ?_) ?_ ?_
  rotate_left
  · show Act.put _ (some 38) _ = _
    simp only [Act.put, List.setIfInBounds_toArray, List.set_cons_zero, List.set_cons_succ, i64_w, i32_w]
    rfl
  refine pure_ (i := 17) (N := some 39) (v := ?_) (a' := ?_) #[true, true, true, true, true, true, true, true, true, true, true, true, true, true, true, true, true, true, false, false, false, false, false] rfl rfl (any_of HT_.out (by kernel_rfl)) (fun _ _ _ h => h) (Or.inl ⟨by rfl, ?_⟩) ?_ ?_
  rotate_left
  · intro w'
    go_simp
    with_reducible rfl
  rotate_left
  · simp only [Act.put, List.setIfInBounds_toArray, List.set_cons_zero, List.set_cons_succ, i64_w, i32_w]
    rfl
  refine one_ (i := 18) (N := some 40) #[true, true, true, true, true, true, true, true, true, true, true, true, true, true, true, true, true, true, true, false, false, false, false] rfl rfl (one_of HT_.out (by kernel_rfl)) (by decide) (fun K hK => ?_)
  refine goes_ Tryd.func75 (by kernel_rfl) rfl #[.pointer (some ⟨q, 0, none⟩), .agg #[.bool true, .slice B1 l1.length d1, .slice B2 l2.length d2, .int .i64 since, .int .i64 0, .slice none 0 0, .int .i64 since, .int .i64 0, .int .i64 0, .slice B9 lh.length d9]] (by rfl) rfl rfl (by (try simp only [List.map_toArray, List.map_cons, List.map_nil]); first | done | rfl) ?_
  obtain ⟨X4, hX4⟩ : ∃ X4 : Nat → Prop, X4 = fun k => X k ∨ (w.heap.size ≤ k ∧ k < wy.heap.size) := ⟨_, rfl⟩
  have hsepX : ∀ k, X k → k < w.heap.size ∧ ¬ OwnQ q vl k := by obtain ⟨rows, hv⟩ := HM.out.mem; exact hv.sep
  have hownlt : ∀ k, OwnQ q vl k → k < w.heap.size := by obtain ⟨rows, hv⟩ := HM.out.mem; exact hv.own_lt
  have s1 := HBy.out.size
  have s2 := HB9.out.size
  have s3 := HBz.out.size
  have hMy : RefM wy base q size most vl X4 cs := HM.out.step (by omega) (fun k hk _ => HBy.out.block k hk) (fun k hx => by rw [hX4]; exact .inl hx) (fun k hx => by rw [hX4] at hx; rcases hx with hx | hx; (exact ⟨by have := (hsepX k hx).1; omega, (hsepX k hx).2⟩); (exact ⟨by omega, fun ho => by have := hownlt k ho; omega⟩))
  have hb1 : BX wy X4 (.slice B1 l1.length d1) l1 := Kd.V_mono (Kd.V_step (Kd.R_V (base' := 0) (Kd.R_bound HR1.out)) (fun k hk hl => HB9.out.block k hl)) (fun k hk => by rw [hX4]; have := hk.2.1; have := hk.2.2.1; exact .inr ⟨by omega, by omega⟩)
  have hb2 : BX wy X4 (.slice B2 l2.length d2) l2 := Kd.V_mono (Kd.V_step (Kd.R_V (base' := 0) (Kd.R_bound HR2.out)) (fun k hk hl => HB9.out.block k hl)) (fun k hk => by rw [hX4]; have := hk.2.1; have := hk.2.2.1; exact .inr ⟨by omega, by omega⟩)
  have hb9 : BX wy X4 (.slice B9 lh.length d9) lh := Kd.V_mono (Kd.R_V (base' := 0) (Kd.R_bound HR9.out)) (fun k hk => by rw [hX4]; have := hk.2.1; have := hk.2.2.1; exact .inr ⟨by omega, by omega⟩)
  have HX4 := Aside0.mk hX4
  have h9 : 0 < (leafNd size l1 l2 since).f9.length := by show 0 < (hashB size 1 [l1, l2, num8 since]).length; rw [hashB_len size 1 _ HM.out.hs (by have := HLEN.out; simp [isLong, num8_len]; omega)]; have := HM.out.hs; omega
  rw [HLH.out] at hb9 ⊢
  refine (rput_calls hMy (leafNd size l1 l2 since) h9 B1 B2 none B9 d1 d2 0 d9 hb1 hb2 (Kd.V_nil _ _ _ _ _) hb9).mono ?_
  rintro e wx hp
  obtain ⟨ee, i0, i1, rfl, hp0, hp1⟩ : ∃ (r : Int × Int) (i0 i1 : Int), e = .returned (.tuple #[.int .i64 i0, .int .i64 i1]) ∧ r = (i0, i1) ∧ True := by by_cases hf : (usedN cs : Int) = most; (exact ⟨_, _, _, (hp.full hf).1, rfl, trivial⟩); (exact ⟨_, _, _, (hp.more hf).1, rfl, trivial⟩)
  refine ⟨_, rfl, ?_⟩
  have HP := Aside0.mk hp
  clear hp hp0 hp1
  have HQx := Aside0.mk (show ∃ vl', QBlk wx q size most vl' from by by_cases hf : (usedN cs : Int) = most; (obtain ⟨_, vl', _, hm, _⟩ := HP.out.full hf; obtain ⟨_, hv⟩ := hm.mem; exact ⟨_, hv.blk⟩); (obtain ⟨_, vl', _, hm, _⟩ := HP.out.more hf; obtain ⟨_, hv⟩ := hm.mem; exact ⟨_, hv.blk⟩))
  refine hK.out _ _ (HQx.out.choose_spec.cells.1) (fun hHeld => ?_)
  clear hK K
  refine norm_ (a' := ?_) ?_ ?_
  rotate_left
  · show Act.put _ (some 40) _ = _
    simp only [Act.put, List.setIfInBounds_toArray, List.set_cons_zero, List.set_cons_succ, i64_w, i32_w]
    rfl
  refine pure_ (i := 19) (N := some 41) (v := ?_) (a' := ?_) #[true, true, true, true, true, true, true, true, true, true, true, true, true, true, true, true, true, true, true, true, false, false, false] rfl rfl (any_of HT_.out (by kernel_rfl)) (fun _ _ _ h => h) (Or.inl ⟨by rfl, ?_⟩) ?_ ?_
  rotate_left
  · intro w'
    go_simp
    with_reducible rfl
  rotate_left
  · simp only [Act.put, List.setIfInBounds_toArray, List.set_cons_zero, List.set_cons_succ, i64_w, i32_w]
    rfl
  refine pure_ (i := 20) (N := some 42) (v := ?_) (a' := ?_) #[true, true, true, true, true, true, true, true, true, true, true, true, true, true, true, true, true, true, true, true, true, false, false] rfl rfl (any_of HT_.out (by kernel_rfl)) (fun _ _ _ h => h) (Or.inl ⟨by rfl, ?_⟩) ?_ ?_
  rotate_left
  · intro w'
    go_simp
    with_reducible rfl
  rotate_left
  · simp only [Act.put, List.setIfInBounds_toArray, List.set_cons_zero, List.set_cons_succ, i64_w, i32_w]
    rfl
  refine pure_ (i := 21) (N := some 8) (v := ?_) (a' := ?_) #[true, true, true, true, true, true, true, true, true, true, true, true, true, true, true, true, true, true, true, true, true, true, false] rfl rfl (any_of HT_.out (by kernel_rfl)) (fun _ _ _ h => h) (Or.inl ⟨by rfl, ?_⟩) ?_ ?_
  rotate_left
  · intro w'
    go_simp
    with_reducible rfl
  rotate_left
  · simp only [Act.put, List.setIfInBounds_toArray, List.set_cons_zero, List.set_cons_succ, i64_w, i32_w]
    rfl
  refine pure_ (i := 22) (N := some 9) (v := ?_) (a' := ?_) #[true, true, true, true, true, true, true, true, true, true, true, true, true, true, true, true, true, true, true, true, true, true, true] rfl rfl (any_of HT_.out (by kernel_rfl)) (fun _ _ _ h => h) (Or.inl ⟨by rfl, ?_⟩) ?_ ?_
  rotate_left
  · intro w'
    go_simp
    with_reducible rfl
  rotate_left
  · simp only [Act.put, List.setIfInBounds_toArray, List.set_cons_zero, List.set_cons_succ, i64_w, i32_w]
    rfl
  refine done_ (done_of HT_.out (by kernel_rfl)) ?_
  go_wp2_with fail
  go_ret2
  have hgr : Grew w X X4 := fun k hk => by
    rw [HX4.out] at hk
    exact hk.imp id (fun h => h.1)
  exact ⟨fun hc => absurd hc HC.out, fun _ hf => ⟨(HP.out.full hf).1, RefP.start (HP.out.full hf).2 hgr HBy.out HBW.out.1⟩, fun _ hf => ⟨(HP.out.more hf).1, RefP.start (HP.out.more hf).2 hgr HBy.out HBW.out.1⟩⟩
end Go.Proofs.YtdeneoknjeegbaaDoor.P
end
