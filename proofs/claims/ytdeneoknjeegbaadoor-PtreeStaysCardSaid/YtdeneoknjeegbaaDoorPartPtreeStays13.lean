/- Lemmas of this claim, part 13. -/
import Derived.Test.YtdeneoknjeegbaaDoorPartPtreeStays2
import Derived.Test.YtdeneoknjeegbaaDoorPartPtreeStays12
import Derived.Test.YtdeneoknjeegbaaDoorPartPtreeStays11
import Derived.Test.YtdeneoknjeegbaaDoorPartPtreeStays6
import Derived.Lib.SlBytesConst
import Derived.ChangeArms
import Derived.SizedLaws
import Derived.Test.YtdeneoknjeegbaaDoorPartPtreeStays4
import Derived.WideShapes
set_option linter.unusedVariables false
set_option linter.unusedSimpArgs false
section
namespace Go.Proofs.YtdeneoknjeegbaaDoor.P
open Go.RowKit YtdeneoknjeegbaaDoorW.PrintWords YtdeneoknjeegbaaDoorW.PrintLast YtdeneoknjeegbaaDoorW.PrintMore
attribute [local go_sem] max2_int min2_int max_two min_two max_three min_three max_four min_four
def annalsref10_SameItems.l0 : Nat -> List (S51) -> List (S51) -> Int -> Int -> Option (Bool)
  | 0, _, _, _, _ => none
  | k + 1, x0, x1, x12, x13 => if x13 < x12 then (if 0 <= x13 then (if x13 < (x0.length : Int) then (if x13 < (x1.length : Int) then ((annalsref10_SameItem.f ((rd_T51 x0 x13).f0) ((rd_T51 x0 x13).f1) ((rd_T51 x0 x13).f2) ((rd_T51 x1 x13).f0) ((rd_T51 x1 x13).f1) ((rd_T51 x1 x13).f2)).bind fun t421 => (if t421 = true then (annalsref10_SameItems.l0 k x0 x1 x12 (wrap64 (x13 + 1))) else (some false))) else (none)) else (none)) else (none)) else (some true)
def annalsref10_SameItems.f (k : Nat) (l0 : List (S51)) (l1 : List (S51)) : Option (Bool) := if (l0.length : Int) = (l1.length : Int) then (annalsref10_SameItems.l0 k l0 l1 (l0.length : Int) 0) else (some false)
theorem annalsref10_SameItems.mono_l : ∀ k, (∀ y0 y1 y2 y3, LeO (annalsref10_SameItems.l0 k y0 y1 y2 y3) (annalsref10_SameItems.l0 (k + 1) y0 y1 y2 y3))
  | 0 => fun _ _ _ _ r h => by simp [annalsref10_SameItems.l0] at h
  | k + 1 => by
    have ih0 := annalsref10_SameItems.mono_l k
    · intro y0 y1 y2 y3
      unfold annalsref10_SameItems.l0
      repeat' first
      | (with_reducible exact ih0 _ _ _ _)
      | (with_reducible exact LeO.refl _)
      | (with_reducible exact LeO.none _)
      | (with_reducible refine LeO.ite ?_ ?_)
      | (with_reducible refine LeO.bind ?_ (fun _ => ?_))
      | exact ih0 _ _ _ _
      | exact LeO.none _
      | refine LeO.ite ?_ ?_
      | refine LeO.bind ?_ (fun _ => ?_)
theorem annalsref10_SameItems.mono : ∀ a0 a1 k, LeO (annalsref10_SameItems.f k a0 a1) (annalsref10_SameItems.f (k + 1) a0 a1) := by
  intro a0 a1 k
  have ih0 := annalsref10_SameItems.mono_l k
  unfold annalsref10_SameItems.f
  repeat' first
      | (with_reducible exact ih0 _ _ _ _)
      | (with_reducible exact LeO.refl _)
      | (with_reducible exact LeO.none _)
      | (with_reducible refine LeO.ite ?_ ?_)
      | (with_reducible refine LeO.bind ?_ (fun _ => ?_))
      | exact ih0 _ _ _ _
      | exact LeO.none _
      | refine LeO.ite ?_ ?_
      | refine LeO.bind ?_ (fun _ => ?_)
def annalsref10_SameItems.T6 : Bool × List (List Nat × List Nat) := (true, [([], []), ([], []), ([0, 1], [0, 1]), ([2], [2]), ([], []), ([], []), ([4, 5], [4, 5]), ([6], [6]), ([3, 7], [3, 7]), ([8], [8])])
def annalsref10_SameItems.B6 : List Nat := [0, 0, 3, 7, 0, 0, 48, 112, 255, 511]
theorem annalsref10_SameItems.tab6 : rtab .any (opsOf Tryd.f34 6) = annalsref10_SameItems.T6 := by kernel_rfl
theorem annalsref10_SameItems.bits6 : waitsOk annalsref10_SameItems.T6.2 annalsref10_SameItems.B6 = true := by kernel_rfl
set_option maxHeartbeats 8000000 in
set_option maxRecDepth 100000 in
theorem annalsref10_SameItems.calls (k : Nat) (A0 : Option Addr) (c0 : Nat) (l0 : List (S51)) (A1 : Option Addr) (c1 : Nat) (l1 : List (S51)) (r : Bool) (w : World) (hr0 : Kd.C k51 w A0 l0.length l0) (hc0 : l0.length <= c0) (hr1 : Kd.C k51 w A1 l1.length l1) (hc1 : l1.length <= c1) (h : annalsref10_SameItems.f k l0 l1 = some r) :
    Calls Tryd.prog 34 #[.slice A0 l0.length c0, .slice A1 l1.length c1] w fun e w' => e = .returned (.bool r) /\ Below w.heap.size w w' := by
  have hu51 := Tryd.underlying51
  have HR0 := z_ hr0
  have HC0 := z_ hc0
  clear hr0 hc0
  have HR1 := z_ hr1
  have HC1 := z_ hc1
  clear hr1 hc1
  have HB := z_ (Below.refl w.heap.size w)
  have H : (if (l0.length : Int) = (l1.length : Int) then (annalsref10_SameItems.l0 k l0 l1 (l0.length : Int) 0) else (some false)) = some r := h
  clear h
  by_cases c3 : (l0.length : Int) = (l1.length : Int)
  · rw [if_pos c3] at H
    have c3b0 : ((l0.length : Int) == (l1.length : Int)) = true := beq_iff_eq.mpr c3
    have c3b1 : ((l0.length : Int) != (l1.length : Int)) = false := bne_eq_false_iff_eq.mpr c3
    have c3b2 : (l0.length == l1.length) = true := by first | simpa using c3 | (simp at c3 ⊢; omega)
    clear c3
    have H' := z_ H
    clear H
    go_enter Tryd.func34, Tryd.ntmps34
    go_wp2
    go_loopg [13] k (fun kq v13 w' => ∃ (x13_1 : Int), v13 = .int .i64 x13_1 /\ Aside0 (annalsref10_SameItems.l0 kq l0 l1 (l0.length : Int) x13_1 = some r) /\ Aside0 (kq <= k) /\ Aside0 (Below w.heap.size w w'))
    case atStart => exact ⟨(0), (by first | rfl | (simp; done) | (simp [*]; done)), H', ⟨Nat.le_refl _⟩, ⟨by repeat (first | (with_reducible first | exact HB.out | apply below_alloc | apply pw_below_drewN | apply below_drew1) | exact HB.out)⟩⟩
    case round =>
      clear H'
      try clear c1
      try clear p2
      try clear c3
      try clear c3b0
      try clear c3b1
      try clear c3b2
      obtain ⟨x13_1, rfl, HA, HK1, HB⟩ := hrel
      cases gk with
      | zero => exact absurd HA.out (by simp [annalsref10_SameItems.l0])
      | succ k1 =>
        have H := HA.out
        clear HA
        simp only [annalsref10_SameItems.l0] at H
        by_cases c4 : x13_1 < (l0.length : Int)
        · rw [if_pos c4] at H
          have c4b0 : decide (x13_1 < (l0.length : Int)) = true := decide_eq_true c4
          clear c4
          by_cases c5 : 0 <= x13_1
          · rw [if_pos c5] at H
            have c5b0 : decide (0 <= x13_1) = true := decide_eq_true c5
            clear c5
            by_cases c6 : x13_1 < (l0.length : Int)
            · rw [if_pos c6] at H
              have c6b0 : decide (x13_1 < (l0.length : Int)) = true := decide_eq_true c6
              clear c6
              by_cases c7 : x13_1 < (l1.length : Int)
              · rw [if_pos c7] at H
                have c7b0 : decide (x13_1 < (l1.length : Int)) = true := decide_eq_true c7
                clear c7
                replace H := Option.bind_eq_some_iff.mp H
                obtain ⟨t421, A80, H⟩ := H
                replace H : (if t421 = true then (annalsref10_SameItems.l0 k1 l0 l1 (l0.length : Int) (wrap64 (x13_1 + 1))) else (some false)) = some r := H
                have A8 := z_ A80
                clear A80
                by_cases c9 : t421 = true
                · subst c9
                  have H1 : (annalsref10_SameItems.l0 k1 l0 l1 (l0.length : Int) (wrap64 (x13_1 + 1))) = some r := by rw [if_pos rfl] at H; exact H
                  clear H
                  have H := H1
                  clear H1
                  have H' := z_ H
                  clear H
                  try go_wp2
                  have n0_ := z_ (below_drew1 HB.out)
                  clear HB
                  have HB := n0_
                  clear n0_
                  have p419 : 0 <= (x13_1 : Int) := of_decide_eq_true (by first | (with_reducible assumption) | assumption)
                  have q419 : x13_1 < (l0.length : Int) := of_decide_eq_true (by first | (with_reducible assumption) | assumption)
                  obtain ⟨ad419, A419_0, c419_0, A419_1, c419_1, e419, hx419_0, hx419_1, hx419_2, hl419_0, hi419_0, hl419_1, hi419_1⟩ := at_T51 HR0.out x13_1 p419 q419
                  have hw419_2 := hx419_2
                  have hw419_1 := hx419_1
                  have hw419_0 := hx419_0
                  cases e419
                  replace hx419_0 := (HB.out.cell (World.block_lt_of_cell? w _ hx419_0)).trans hx419_0
                  replace hx419_1 := (HB.out.cell (World.block_lt_of_cell? w _ hx419_1)).trans hx419_1
                  replace hx419_2 := (HB.out.cell (World.block_lt_of_cell? w _ hx419_2)).trans hx419_2
                  have HR419_0 := z_ hi419_0
                  have HC419_0 := z_ hl419_0
                  clear hi419_0 hl419_0
                  have HR419_1 := z_ hi419_1
                  have HC419_1 := z_ hl419_1
                  clear hi419_1 hl419_1
                  replace p419 := eq_true p419
                  replace q419 := eq_true q419
                  have p420 : 0 <= (x13_1 : Int) := of_decide_eq_true (by first | (with_reducible assumption) | assumption)
                  have q420 : x13_1 < (l1.length : Int) := of_decide_eq_true (by first | (with_reducible assumption) | assumption)
                  obtain ⟨ad420, A420_0, c420_0, A420_1, c420_1, e420, hx420_0, hx420_1, hx420_2, hl420_0, hi420_0, hl420_1, hi420_1⟩ := at_T51 HR1.out x13_1 p420 q420
                  have hw420_2 := hx420_2
                  have hw420_1 := hx420_1
                  have hw420_0 := hx420_0
                  cases e420
                  replace hx420_0 := (HB.out.cell (World.block_lt_of_cell? w _ hx420_0)).trans hx420_0
                  replace hx420_1 := (HB.out.cell (World.block_lt_of_cell? w _ hx420_1)).trans hx420_1
                  replace hx420_2 := (HB.out.cell (World.block_lt_of_cell? w _ hx420_2)).trans hx420_2
                  have HR420_0 := z_ hi420_0
                  have HC420_0 := z_ hl420_0
                  clear hi420_0 hl420_0
                  have HR420_1 := z_ hi420_1
                  have HC420_1 := z_ hl420_1
                  clear hi420_1 hl420_1
                  replace p420 := eq_true p420
                  replace q420 := eq_true q420
                  refine start_ (n := 10) (S := fun w' => w'.cell? (ad419.add ((x13_1).toNat * 3)) = some (.slice A419_0 ((rd_T51 l0 x13_1).f0).length c419_0) /\ w'.cell? ⟨(ad419.add ((x13_1).toNat * 3)).block, (ad419.add ((x13_1).toNat * 3)).off + 1, none⟩ = some (.slice A419_1 ((rd_T51 l0 x13_1).f1).length c419_1) /\ w'.cell? ⟨(ad419.add ((x13_1).toNat * 3)).block, (ad419.add ((x13_1).toNat * 3)).off + 2, none⟩ = some (.int .i64 ((rd_T51 l0 x13_1).f2)) /\ w'.cell? (ad420.add ((x13_1).toNat * 3)) = some (.slice A420_0 ((rd_T51 l1 x13_1).f0).length c420_0) /\ w'.cell? ⟨(ad420.add ((x13_1).toNat * 3)).block, (ad420.add ((x13_1).toNat * 3)).off + 1, none⟩ = some (.slice A420_1 ((rd_T51 l1 x13_1).f1).length c420_1) /\ w'.cell? ⟨(ad420.add ((x13_1).toNat * 3)).block, (ad420.add ((x13_1).toNat * 3)).off + 2, none⟩ = some (.int .i64 ((rd_T51 l1 x13_1).f2))) (ds := []) #[false, false, false, false, false, false, false, false, false, false] (by kernel_rfl) rfl rfl ⟨((HB.out.cell (World.block_lt_of_cell? w _ hw419_0)).trans hw419_0), ((HB.out.cell (World.block_lt_of_cell? w _ hw419_1)).trans hw419_1), ((HB.out.cell (World.block_lt_of_cell? w _ hw419_2)).trans hw419_2), ((HB.out.cell (World.block_lt_of_cell? w _ hw420_0)).trans hw420_0), ((HB.out.cell (World.block_lt_of_cell? w _ hw420_1)).trans hw420_1), ((HB.out.cell (World.block_lt_of_cell? w _ hw420_2)).trans hw420_2)⟩ (fun hHeld => ?_); refine with_tabW annalsref10_SameItems.tab6 annalsref10_SameItems.bits6 (fun HT_ HW_ => ?_)
                  generalize wr.drew = w10 at HB HR419_0 HR419_1 HR420_0 HR420_1 hx419_0 hx419_1 hx419_2 hx420_0 hx420_1 hx420_2 hHeld ⊢
                  refine pure_ (i := 0) (N := some 16) (v := ?_) (a' := ?_) #[true, false, false, false, false, false, false, false, false, false] rfl rfl (any_of HT_.out (by kernel_rfl)) (fun _ _ _ h => h) (Or.inl ⟨by rfl, ?_⟩) ?_ ?_
                  rotate_left
                  · intro w'
                    go_simp
                    with_reducible rfl
                  rotate_left
                  · simp only [pq_]
                    rfl
                  refine pure_ (i := 1) (N := some 17) (v := ?_) (a' := ?_) #[true, true, false, false, false, false, false, false, false, false] rfl rfl (any_of HT_.out (by kernel_rfl)) (fun _ _ _ h => h) (Or.inl ⟨by rfl, ?_⟩) ?_ ?_
                  rotate_left
                  · intro w'
                    go_simp
                    with_reducible rfl
                  rotate_left
                  · simp only [pq_]
                    rfl
                  refine pure_ (i := 2) (N := some 18) (v := ?_) (a' := ?_) #[true, true, true, false, false, false, false, false, false, false] rfl rfl (any_of HT_.out (by kernel_rfl)) (fun _ _ _ h => h) (Or.inl ⟨by rfl, ?_⟩) ?_ ?_
                  rotate_left
                  · intro w'
                    go_simp
                    with_reducible rfl
                  rotate_left
                  · simp only [pq_]
                    rfl
                  refine pure_ (i := 4) (N := some 20) (v := ?_) (a' := ?_) #[true, true, true, false, true, false, false, false, false, false] rfl rfl (any_of HT_.out (by kernel_rfl)) (fun _ _ _ h => h) (Or.inl ⟨by rfl, ?_⟩) ?_ ?_
                  rotate_left
                  · intro w'
                    go_simp
                    with_reducible rfl
                  rotate_left
                  · simp only [pq_]
                    rfl
                  refine pure_ (i := 5) (N := some 21) (v := ?_) (a' := ?_) #[true, true, true, false, true, true, false, false, false, false] rfl rfl (any_of HT_.out (by kernel_rfl)) (fun _ _ _ h => h) (Or.inl ⟨by rfl, ?_⟩) ?_ ?_
                  rotate_left
                  · intro w'
                    go_simp
                    with_reducible rfl
                  rotate_left
                  · simp only [pq_]
                    rfl
                  refine pure_ (i := 6) (N := some 22) (v := ?_) (a' := ?_) #[true, true, true, false, true, true, true, false, false, false] rfl rfl (any_of HT_.out (by kernel_rfl)) (fun _ _ _ h => h) (Or.inl ⟨by rfl, ?_⟩) ?_ ?_
                  rotate_left
                  · intro w'
                    go_simp
                    with_reducible rfl
                  rotate_left
                  · simp only [pq_]
                    rfl
                  refine take_ (i := 3) (N := some 19) (v := ?_) (a' := ?_) #[true, true, true, true, true, true, true, false, false, false] rfl rfl (take_ofW HT_.out HW_.out (by kernel_rfl)) (fun _ _ _ h => h) (Or.inl ⟨by rfl, ?_⟩) hHeld ?_ ?_
                  rotate_left
                  · rintro w' ⟨s0, s1, s2, s3, s4, s5⟩
                    go_simp
                    with_reducible rfl
                  rotate_left
                  · simp only [pq_]
                    rfl
                  refine take_ (i := 7) (N := some 23) (v := ?_) (a' := ?_) #[true, true, true, true, true, true, true, true, false, false] rfl rfl (take_ofW HT_.out HW_.out (by kernel_rfl)) (fun _ _ _ h => h) (Or.inl ⟨by rfl, ?_⟩) hHeld ?_ ?_
                  rotate_left
                  · rintro w' ⟨s0, s1, s2, s3, s4, s5⟩
                    go_simp
                    with_reducible rfl
                  rotate_left
                  · simp only [pq_]
                    rfl
                  refine one_ (i := 8) (N := some 24) #[true, true, true, true, true, true, true, true, true, false] rfl rfl (one_of HT_.out (by kernel_rfl)) (by decide) (fun K hK => ?_)
                  refine goes_ Tryd.func71 (by kernel_rfl) rfl #[.agg #[.slice A419_0 ((rd_T51 l0 x13_1).f0).length c419_0, .slice A419_1 ((rd_T51 l0 x13_1).f1).length c419_1, .int .i64 ((rd_T51 l0 x13_1).f2)], .agg #[.slice A420_0 ((rd_T51 l1 x13_1).f0).length c420_0, .slice A420_1 ((rd_T51 l1 x13_1).f1).length c420_1, .int .i64 ((rd_T51 l1 x13_1).f2)]] (by rfl) rfl rfl (by (try simp only [List.map_toArray, List.map_cons, List.map_nil]); first | done | rfl | (simp only [List.length_drop, List.length_take]; rfl)) ?_
                  with_reducible refine (annalsref10_SameItem.calls _ _ ((rd_T51 l0 x13_1).f0) _ _ ((rd_T51 l0 x13_1).f1) ((rd_T51 l0 x13_1).f2) _ _ ((rd_T51 l1 x13_1).f0) _ _ ((rd_T51 l1 x13_1).f1) ((rd_T51 l1 x13_1).f2) true _ ?side1 ?side2 ?side3 ?side4 ?side5 ?side6 ?side7 ?side8 A8.out).mono ?_
                  (case side1 => repeat (first | exact (Kd.C_below HR419_0.out HB.out) | (with_reducible refine Kd.C_alloc ?_ _) | (with_reducible refine Kd.C_drewN ?_ _) | (with_reducible refine Kd.C_drew ?_)))
                  (case side2 => exact HC419_0.out)
                  (case side3 => repeat (first | exact (Kd.C_below HR419_1.out HB.out) | (with_reducible refine Kd.C_alloc ?_ _) | (with_reducible refine Kd.C_drewN ?_ _) | (with_reducible refine Kd.C_drew ?_)))
                  (case side4 => exact HC419_1.out)
                  (case side5 => repeat (first | exact (Kd.C_below HR420_0.out HB.out) | (with_reducible refine Kd.C_alloc ?_ _) | (with_reducible refine Kd.C_drewN ?_ _) | (with_reducible refine Kd.C_drew ?_)))
                  (case side6 => exact HC420_0.out)
                  (case side7 => repeat (first | exact (Kd.C_below HR420_1.out HB.out) | (with_reducible refine Kd.C_alloc ?_ _) | (with_reducible refine Kd.C_drewN ?_ _) | (with_reducible refine Kd.C_drew ?_)))
                  (case side8 => exact HC420_1.out)
                  rintro e w11 ⟨rfl, hb⟩
                  refine ⟨_, rfl, ?_⟩
                  have n0_ := z_ (below_step (by repeat (first | (with_reducible first | exact HB.out | apply below_alloc | apply pw_below_drewN | apply below_drew1) | exact HB.out)) hb)
                  clear HB
                  have HB := n0_
                  clear n0_
                  (try clear hb)
                  (try clear hb2)
                  (try clear hk)
                  (try clear hi)
                  refine hK.out _ _ ⟨((HB.out.cell (World.block_lt_of_cell? w _ hw419_0)).trans hw419_0), ((HB.out.cell (World.block_lt_of_cell? w _ hw419_1)).trans hw419_1), ((HB.out.cell (World.block_lt_of_cell? w _ hw419_2)).trans hw419_2), ((HB.out.cell (World.block_lt_of_cell? w _ hw420_0)).trans hw420_0), ((HB.out.cell (World.block_lt_of_cell? w _ hw420_1)).trans hw420_1), ((HB.out.cell (World.block_lt_of_cell? w _ hw420_2)).trans hw420_2)⟩ (fun hHeld => ?_)
                  clear hK K
                  refine norm_ (a' := ?_) ?_ ?_
                  rotate_left
                  · show Act.put _ (some 24) _ = _
                    simp only [pq_]
                    rfl
                  refine pure_ (i := 9) (N := some 25) (v := ?_) (a' := ?_) #[true, true, true, true, true, true, true, true, true, true] rfl rfl (any_of HT_.out (by kernel_rfl)) (fun _ _ _ h => h) (Or.inl ⟨by rfl, ?_⟩) ?_ ?_
                  rotate_left
                  · intro w'
                    go_simp
                    with_reducible rfl
                  rotate_left
                  · simp only [pq_]
                    rfl
                  refine done_ (done_of HT_.out (by kernel_rfl)) ?_
                  try go_wp2
                  go_roundg k1
                  case measure => have := HK1.out; omega
                  case rel => exact ⟨(wrap64 (x13_1 + 1)), (by first | rfl | (simp; done) | (simp [*]; done)), H', ⟨by have := HK1.out; omega⟩, ⟨by repeat (first | (with_reducible first | exact HB.out | apply below_alloc | apply pw_below_drewN | apply below_drew1) | exact HB.out)⟩⟩
                · replace c9 := Bool.eq_false_iff.mpr c9
                  subst c9
                  have H1 : (some false) = some r := by rw [if_neg (show ¬ (false = true) by decide)] at H; exact H
                  clear H
                  have H := H1
                  clear H1
                  obtain rfl := Option.some.inj H
                  try go_wp2
                  have n0_ := z_ (below_drew1 HB.out)
                  clear HB
                  have HB := n0_
                  clear n0_
                  have p419 : 0 <= (x13_1 : Int) := of_decide_eq_true (by first | (with_reducible assumption) | assumption)
                  have q419 : x13_1 < (l0.length : Int) := of_decide_eq_true (by first | (with_reducible assumption) | assumption)
                  obtain ⟨ad419, A419_0, c419_0, A419_1, c419_1, e419, hx419_0, hx419_1, hx419_2, hl419_0, hi419_0, hl419_1, hi419_1⟩ := at_T51 HR0.out x13_1 p419 q419
                  have hw419_2 := hx419_2
                  have hw419_1 := hx419_1
                  have hw419_0 := hx419_0
                  cases e419
                  replace hx419_0 := (HB.out.cell (World.block_lt_of_cell? w _ hx419_0)).trans hx419_0
                  replace hx419_1 := (HB.out.cell (World.block_lt_of_cell? w _ hx419_1)).trans hx419_1
                  replace hx419_2 := (HB.out.cell (World.block_lt_of_cell? w _ hx419_2)).trans hx419_2
                  have HR419_0 := z_ hi419_0
                  have HC419_0 := z_ hl419_0
                  clear hi419_0 hl419_0
                  have HR419_1 := z_ hi419_1
                  have HC419_1 := z_ hl419_1
                  clear hi419_1 hl419_1
                  replace p419 := eq_true p419
                  replace q419 := eq_true q419
                  have p420 : 0 <= (x13_1 : Int) := of_decide_eq_true (by first | (with_reducible assumption) | assumption)
                  have q420 : x13_1 < (l1.length : Int) := of_decide_eq_true (by first | (with_reducible assumption) | assumption)
                  obtain ⟨ad420, A420_0, c420_0, A420_1, c420_1, e420, hx420_0, hx420_1, hx420_2, hl420_0, hi420_0, hl420_1, hi420_1⟩ := at_T51 HR1.out x13_1 p420 q420
                  have hw420_2 := hx420_2
                  have hw420_1 := hx420_1
                  have hw420_0 := hx420_0
                  cases e420
                  replace hx420_0 := (HB.out.cell (World.block_lt_of_cell? w _ hx420_0)).trans hx420_0
                  replace hx420_1 := (HB.out.cell (World.block_lt_of_cell? w _ hx420_1)).trans hx420_1
                  replace hx420_2 := (HB.out.cell (World.block_lt_of_cell? w _ hx420_2)).trans hx420_2
                  have HR420_0 := z_ hi420_0
                  have HC420_0 := z_ hl420_0
                  clear hi420_0 hl420_0
                  have HR420_1 := z_ hi420_1
                  have HC420_1 := z_ hl420_1
                  clear hi420_1 hl420_1
                  replace p420 := eq_true p420
                  replace q420 := eq_true q420
                  refine start_ (n := 10) (S := fun w' => w'.cell? (ad419.add ((x13_1).toNat * 3)) = some (.slice A419_0 ((rd_T51 l0 x13_1).f0).length c419_0) /\ w'.cell? ⟨(ad419.add ((x13_1).toNat * 3)).block, (ad419.add ((x13_1).toNat * 3)).off + 1, none⟩ = some (.slice A419_1 ((rd_T51 l0 x13_1).f1).length c419_1) /\ w'.cell? ⟨(ad419.add ((x13_1).toNat * 3)).block, (ad419.add ((x13_1).toNat * 3)).off + 2, none⟩ = some (.int .i64 ((rd_T51 l0 x13_1).f2)) /\ w'.cell? (ad420.add ((x13_1).toNat * 3)) = some (.slice A420_0 ((rd_T51 l1 x13_1).f0).length c420_0) /\ w'.cell? ⟨(ad420.add ((x13_1).toNat * 3)).block, (ad420.add ((x13_1).toNat * 3)).off + 1, none⟩ = some (.slice A420_1 ((rd_T51 l1 x13_1).f1).length c420_1) /\ w'.cell? ⟨(ad420.add ((x13_1).toNat * 3)).block, (ad420.add ((x13_1).toNat * 3)).off + 2, none⟩ = some (.int .i64 ((rd_T51 l1 x13_1).f2))) (ds := []) #[false, false, false, false, false, false, false, false, false, false] (by kernel_rfl) rfl rfl ⟨((HB.out.cell (World.block_lt_of_cell? w _ hw419_0)).trans hw419_0), ((HB.out.cell (World.block_lt_of_cell? w _ hw419_1)).trans hw419_1), ((HB.out.cell (World.block_lt_of_cell? w _ hw419_2)).trans hw419_2), ((HB.out.cell (World.block_lt_of_cell? w _ hw420_0)).trans hw420_0), ((HB.out.cell (World.block_lt_of_cell? w _ hw420_1)).trans hw420_1), ((HB.out.cell (World.block_lt_of_cell? w _ hw420_2)).trans hw420_2)⟩ (fun hHeld => ?_); refine with_tabW annalsref10_SameItems.tab6 annalsref10_SameItems.bits6 (fun HT_ HW_ => ?_)
                  generalize wr.drew = w12 at HB HR419_0 HR419_1 HR420_0 HR420_1 hx419_0 hx419_1 hx419_2 hx420_0 hx420_1 hx420_2 hHeld ⊢
                  refine pure_ (i := 0) (N := some 16) (v := ?_) (a' := ?_) #[true, false, false, false, false, false, false, false, false, false] rfl rfl (any_of HT_.out (by kernel_rfl)) (fun _ _ _ h => h) (Or.inl ⟨by rfl, ?_⟩) ?_ ?_
                  rotate_left
                  · intro w'
                    go_simp
                    with_reducible rfl
                  rotate_left
                  · simp only [pq_]
                    rfl
                  refine pure_ (i := 1) (N := some 17) (v := ?_) (a' := ?_) #[true, true, false, false, false, false, false, false, false, false] rfl rfl (any_of HT_.out (by kernel_rfl)) (fun _ _ _ h => h) (Or.inl ⟨by rfl, ?_⟩) ?_ ?_
                  rotate_left
                  · intro w'
                    go_simp
                    with_reducible rfl
                  rotate_left
                  · simp only [pq_]
                    rfl
                  refine pure_ (i := 2) (N := some 18) (v := ?_) (a' := ?_) #[true, true, true, false, false, false, false, false, false, false] rfl rfl (any_of HT_.out (by kernel_rfl)) (fun _ _ _ h => h) (Or.inl ⟨by rfl, ?_⟩) ?_ ?_
                  rotate_left
                  · intro w'
                    go_simp
                    with_reducible rfl
                  rotate_left
                  · simp only [pq_]
                    rfl
                  refine pure_ (i := 4) (N := some 20) (v := ?_) (a' := ?_) #[true, true, true, false, true, false, false, false, false, false] rfl rfl (any_of HT_.out (by kernel_rfl)) (fun _ _ _ h => h) (Or.inl ⟨by rfl, ?_⟩) ?_ ?_
                  rotate_left
                  · intro w'
                    go_simp
                    with_reducible rfl
                  rotate_left
                  · simp only [pq_]
                    rfl
                  refine pure_ (i := 5) (N := some 21) (v := ?_) (a' := ?_) #[true, true, true, false, true, true, false, false, false, false] rfl rfl (any_of HT_.out (by kernel_rfl)) (fun _ _ _ h => h) (Or.inl ⟨by rfl, ?_⟩) ?_ ?_
                  rotate_left
                  · intro w'
                    go_simp
                    with_reducible rfl
                  rotate_left
                  · simp only [pq_]
                    rfl
                  refine pure_ (i := 6) (N := some 22) (v := ?_) (a' := ?_) #[true, true, true, false, true, true, true, false, false, false] rfl rfl (any_of HT_.out (by kernel_rfl)) (fun _ _ _ h => h) (Or.inl ⟨by rfl, ?_⟩) ?_ ?_
                  rotate_left
                  · intro w'
                    go_simp
                    with_reducible rfl
                  rotate_left
                  · simp only [pq_]
                    rfl
                  refine take_ (i := 3) (N := some 19) (v := ?_) (a' := ?_) #[true, true, true, true, true, true, true, false, false, false] rfl rfl (take_ofW HT_.out HW_.out (by kernel_rfl)) (fun _ _ _ h => h) (Or.inl ⟨by rfl, ?_⟩) hHeld ?_ ?_
                  rotate_left
                  · rintro w' ⟨s0, s1, s2, s3, s4, s5⟩
                    go_simp
                    with_reducible rfl
                  rotate_left
                  · simp only [pq_]
                    rfl
                  refine take_ (i := 7) (N := some 23) (v := ?_) (a' := ?_) #[true, true, true, true, true, true, true, true, false, false] rfl rfl (take_ofW HT_.out HW_.out (by kernel_rfl)) (fun _ _ _ h => h) (Or.inl ⟨by rfl, ?_⟩) hHeld ?_ ?_
                  rotate_left
                  · rintro w' ⟨s0, s1, s2, s3, s4, s5⟩
                    go_simp
                    with_reducible rfl
                  rotate_left
                  · simp only [pq_]
                    rfl
                  refine one_ (i := 8) (N := some 24) #[true, true, true, true, true, true, true, true, true, false] rfl rfl (one_of HT_.out (by kernel_rfl)) (by decide) (fun K hK => ?_)
                  refine goes_ Tryd.func71 (by kernel_rfl) rfl #[.agg #[.slice A419_0 ((rd_T51 l0 x13_1).f0).length c419_0, .slice A419_1 ((rd_T51 l0 x13_1).f1).length c419_1, .int .i64 ((rd_T51 l0 x13_1).f2)], .agg #[.slice A420_0 ((rd_T51 l1 x13_1).f0).length c420_0, .slice A420_1 ((rd_T51 l1 x13_1).f1).length c420_1, .int .i64 ((rd_T51 l1 x13_1).f2)]] (by rfl) rfl rfl (by (try simp only [List.map_toArray, List.map_cons, List.map_nil]); first | done | rfl | (simp only [List.length_drop, List.length_take]; rfl)) ?_
                  with_reducible refine (annalsref10_SameItem.calls _ _ ((rd_T51 l0 x13_1).f0) _ _ ((rd_T51 l0 x13_1).f1) ((rd_T51 l0 x13_1).f2) _ _ ((rd_T51 l1 x13_1).f0) _ _ ((rd_T51 l1 x13_1).f1) ((rd_T51 l1 x13_1).f2) false _ ?side1 ?side2 ?side3 ?side4 ?side5 ?side6 ?side7 ?side8 A8.out).mono ?_
                  (case side1 => repeat (first | exact (Kd.C_below HR419_0.out HB.out) | (with_reducible refine Kd.C_alloc ?_ _) | (with_reducible refine Kd.C_drewN ?_ _) | (with_reducible refine Kd.C_drew ?_)))
                  (case side2 => exact HC419_0.out)
                  (case side3 => repeat (first | exact (Kd.C_below HR419_1.out HB.out) | (with_reducible refine Kd.C_alloc ?_ _) | (with_reducible refine Kd.C_drewN ?_ _) | (with_reducible refine Kd.C_drew ?_)))
                  (case side4 => exact HC419_1.out)
                  (case side5 => repeat (first | exact (Kd.C_below HR420_0.out HB.out) | (with_reducible refine Kd.C_alloc ?_ _) | (with_reducible refine Kd.C_drewN ?_ _) | (with_reducible refine Kd.C_drew ?_)))
                  (case side6 => exact HC420_0.out)
                  (case side7 => repeat (first | exact (Kd.C_below HR420_1.out HB.out) | (with_reducible refine Kd.C_alloc ?_ _) | (with_reducible refine Kd.C_drewN ?_ _) | (with_reducible refine Kd.C_drew ?_)))
                  (case side8 => exact HC420_1.out)
                  rintro e w13 ⟨rfl, hb⟩
                  refine ⟨_, rfl, ?_⟩
                  have n0_ := z_ (below_step (by repeat (first | (with_reducible first | exact HB.out | apply below_alloc | apply pw_below_drewN | apply below_drew1) | exact HB.out)) hb)
                  clear HB
                  have HB := n0_
                  clear n0_
                  (try clear hb)
                  (try clear hb2)
                  (try clear hk)
                  (try clear hi)
                  refine hK.out _ _ ⟨((HB.out.cell (World.block_lt_of_cell? w _ hw419_0)).trans hw419_0), ((HB.out.cell (World.block_lt_of_cell? w _ hw419_1)).trans hw419_1), ((HB.out.cell (World.block_lt_of_cell? w _ hw419_2)).trans hw419_2), ((HB.out.cell (World.block_lt_of_cell? w _ hw420_0)).trans hw420_0), ((HB.out.cell (World.block_lt_of_cell? w _ hw420_1)).trans hw420_1), ((HB.out.cell (World.block_lt_of_cell? w _ hw420_2)).trans hw420_2)⟩ (fun hHeld => ?_)
                  clear hK K
                  refine norm_ (a' := ?_) ?_ ?_
                  rotate_left
                  · show Act.put _ (some 24) _ = _
                    simp only [pq_]
                    rfl
                  refine pure_ (i := 9) (N := some 25) (v := ?_) (a' := ?_) #[true, true, true, true, true, true, true, true, true, true] rfl rfl (any_of HT_.out (by kernel_rfl)) (fun _ _ _ h => h) (Or.inl ⟨by rfl, ?_⟩) ?_ ?_
                  rotate_left
                  · intro w'
                    go_simp
                    with_reducible rfl
                  rotate_left
                  · simp only [pq_]
                    rfl
                  refine done_ (done_of HT_.out (by kernel_rfl)) ?_
                  try go_wp2
                  go_ret
                  exact ⟨by first | rfl | (simp [errW_none, errW_some] <;> rfl) | (simp [*, errW_none, errW_some] <;> rfl), by repeat (first | (with_reducible first | exact HB.out | apply below_alloc | apply pw_below_drewN | apply below_drew1) | exact HB.out)⟩
              · rw [if_neg c7] at H
                exact absurd H (by simp)
            · rw [if_neg c6] at H
              exact absurd H (by simp)
          · rw [if_neg c5] at H
            exact absurd H (by simp)
        · rw [if_neg c4] at H
          have c4b0 : decide (x13_1 < (l0.length : Int)) = false := decide_eq_false c4
          clear c4
          obtain rfl := Option.some.inj H
          go_wp2
          go_ret
          exact ⟨by first | rfl | (simp [errW_none, errW_some] <;> rfl) | (simp [*, errW_none, errW_some] <;> rfl), by repeat (first | (with_reducible first | exact HB.out | apply below_alloc | apply pw_below_drewN | apply below_drew1) | exact HB.out)⟩
  · rw [if_neg c3] at H
    have c3b0 : ((l0.length : Int) == (l1.length : Int)) = false := beq_eq_false_iff_ne.mpr c3
    have c3b1 : ((l0.length : Int) != (l1.length : Int)) = true := bne_iff_ne.mpr c3
    have c3b2 : (l0.length == l1.length) = false := by first | simpa using c3 | (simp at c3 ⊢; omega)
    obtain rfl := Option.some.inj H
    go_enter Tryd.func34, Tryd.ntmps34
    go_wp2
    go_ret
    exact ⟨by first | rfl | (simp [errW_none, errW_some] <;> rfl) | (simp [*, errW_none, errW_some] <;> rfl), by repeat (first | (with_reducible first | exact HB.out | apply below_alloc | apply pw_below_drewN | apply below_drew1) | exact HB.out)⟩
end Go.Proofs.YtdeneoknjeegbaaDoor.P
end
section
namespace Go.Proofs.YtdeneoknjeegbaaDoor.P
open Go Go.RowKit YtdeneoknjeegbaaDoor.Pure YtdeneoknjeegbaaDoorW.PrintWords YtdeneoknjeegbaaDoorW.PrintLast YtdeneoknjeegbaaDoorW.PrintMore
def cutP (p : S59) : S59 := ⟨p.f0.take 30, p.f1.take 100, p.f2⟩
def fewL (l : List S59) : List S59 := (l.take 30).map cutP
theorem mn_take (l : List Int) (n : Nat) : 0 <= mn (l.length : Int) (n : Int) /\ mn (l.length : Int) (n : Int) <= (l.length : Int) /\ l.take (mn (l.length : Int) (n : Int)).toNat = l.take n := by
  unfold mn
  split
  · exact ⟨by omega, by omega, by rw [Int.toNat_natCast]⟩
  · refine ⟨by omega, Int.le_refl _, ?_⟩
    rw [Int.toNat_natCast, List.take_of_length_le (Nat.le_refl _), List.take_of_length_le (by omega)]
theorem few_l0 (l : List S59) (hl : l.length <= 9223372036854775807) : ∀ (k i : Nat) (out : List S59), i <= l.length -> l.length - i < k -> out.length <= i -> annalslaw10_few.l0 k out l (l.length : Int) (i : Int) = some (out ++ ((l.take 30).drop i).map cutP)
  | 0, i, out, h1, h2, h3 => by omega
  | k + 1, i, out, h1, h2, h3 => by
    unfold annalslaw10_few.l0
    by_cases hi : i < l.length
    · have hw : wrap64 ((i : Int) + 1) = ((i + 1 : Nat) : Int) := by rw [wrap64_id _ (by omega)]; omega
      rw [if_pos (show (i : Int) < (l.length : Int) by omega), if_pos (show 0 <= (i : Int) by omega), if_pos (show (i : Int) < (l.length : Int) by omega)]
      by_cases h30 : i < 30
      · obtain ⟨a1, a2, a3⟩ := mn_take (rd_T59 l (i : Int)).f0 30
        obtain ⟨b1, b2, b3⟩ := mn_take (rd_T59 l (i : Int)).f1 100
        have e1 : ((30 : Nat) : Int) = 30 := rfl
        have e2 : ((100 : Nat) : Int) = 100 := rfl
        rw [e1] at a1 a2 a3
        rw [e2] at b1 b2 b3
        rw [if_pos (show (i : Int) < 30 by omega), if_pos a1, if_pos a2, if_pos b1, if_pos b2, if_pos (by omega), a3, b3, hw, few_l0 l hl k (i + 1) _ (by omega) (by omega) (by rw [List.length_append]; show out.length + 1 <= i + 1; omega)]
        have hd : (l.take 30).drop i = rd_T59 l (i : Int) :: (l.take 30).drop (i + 1) := by
          rw [List.drop_eq_getElem_cons (by rw [List.length_take]; omega), List.getElem_take]
          unfold rd_T59
          rw [List.getD_eq_getElem?_getD, Int.toNat_natCast, List.getElem?_eq_getElem hi]
          rfl
        rw [hd, List.map_cons, List.append_assoc]
        rfl
      · rw [if_neg (show ¬ (i : Int) < 30 by omega), hw, few_l0 l hl k (i + 1) _ (by omega) (by omega) (by omega)]
        rw [List.drop_of_length_le (by rw [List.length_take]; omega), List.drop_of_length_le (by rw [List.length_take]; omega)]
    · rw [if_neg (by omega), List.drop_of_length_le (by rw [List.length_take]; omega)]
      simp
theorem few_f (l : List S59) (hl : l.length <= 9223372036854775807) : annalslaw10_few.f (l.length + 1) l = some (fewL l) := by
  unfold annalslaw10_few.f
  have := few_l0 l hl (l.length + 1) 0 [] (by omega) (by omega) (by simp)
  rw [show ((0 : Nat) : Int) = 0 from rfl] at this
  rw [this]
  rfl
theorem same_item (a b : List Int) (c : Int) : annalsref10_SameItem.f a b c a b c = some true := by
  unfold annalsref10_SameItem.f
  rw [if_pos rfl, if_pos rfl]
  simp
theorem same_l0 (l : List S51) (hl : l.length <= 9223372036854775807) : ∀ (k i : Nat), i <= l.length -> l.length - i < k -> annalsref10_SameItems.l0 k l l (l.length : Int) (i : Int) = some true
  | 0, i, h1, h2 => by omega
  | k + 1, i, h1, h2 => by
    unfold annalsref10_SameItems.l0
    by_cases hi : i < l.length
    · have hw : wrap64 ((i : Int) + 1) = ((i + 1 : Nat) : Int) := by rw [wrap64_id _ (by omega)]; omega
      rw [if_pos (by omega), if_pos (by omega), if_pos (by omega), if_pos (by omega), same_item, Option.bind_some, if_pos rfl, hw]
      exact same_l0 l hl k (i + 1) (by omega) (by omega)
    · rw [if_neg (by omega)]
theorem same_f (l : List S51) (hl : l.length <= 9223372036854775807) : annalsref10_SameItems.f (l.length + 1) l l = some true := by
  unfold annalsref10_SameItems.f
  rw [if_pos rfl]
  exact same_l0 l hl (l.length + 1) 0 (by omega) (by omega)
theorem keep_ins {A S B N : List Lf} {id key : List Int} {since : Int} (hab : ∀ y ∈ A ++ B, y.id ≠ id) (h : ((∀ y ∈ S, y.id = id) /\ N = [⟨id, key, since⟩]) \/ ((∀ y ∈ S, y.id ≠ id) /\ (N = ⟨id, key, since⟩ :: S \/ N = S ++ [⟨id, key, since⟩]))) :
    ((A ++ N ++ B).map sOf).filter (keepP id) = ((A ++ S ++ B).map sOf).filter (keepP id) := by
  have hk : ∀ (l : List Lf), (∀ y ∈ l, y.id ≠ id) -> (l.map sOf).filter (keepP id) = l.map sOf := fun l hl => by
    rw [List.filter_eq_self]
    intro x hx
    obtain ⟨y, hy, rfl⟩ := List.mem_map.1 hx
    unfold keepP
    rw [decide_eq_false (show ¬ (sOf y).f0 = id from hl y hy)]
    rfl
  have hn : ∀ (l : List Lf), (∀ y ∈ l, y.id = id) -> (l.map sOf).filter (keepP id) = [] := fun l hl => by
    rw [List.filter_eq_nil_iff]
    intro x hx
    obtain ⟨y, hy, rfl⟩ := List.mem_map.1 hx
    unfold keepP
    rw [decide_eq_true (show (sOf y).f0 = id from hl y hy)]
    decide
  have hone : ((([⟨id, key, since⟩] : List Lf).map sOf).filter (keepP id)) = [] := hn _ (fun y hy => by rw [List.mem_singleton] at hy; rw [hy])
  have : (N.map sOf).filter (keepP id) = (S.map sOf).filter (keepP id) := by
    rcases h with ⟨h1, rfl⟩ | ⟨h1, rfl | rfl⟩
    · rw [hn S h1]
      exact hone
    · rw [<- List.singleton_append, List.map_append, List.filter_append, hone, List.nil_append]
    · rw [List.map_append, List.filter_append, hone, List.append_nil]
  simp only [List.map_append, List.filter_append, this]
set_option maxRecDepth 100000 in
theorem deep_calls {w : World} {base p : Nat} {size room : Int} {vc vf : Value} {X : Nat -> Prop} {cs : Cs} (h : ArenaM w base p size room vc vf X cs) (root : Int) (t : Option PT) (ht : TreeIn size cs root t) :
    Calls Tryd.prog 68 #[.pointer (some ⟨p, 0, none⟩), .int .i64 root] w fun e w' => e = .returned (.int .i64 (heightO t : Int)) /\ Below w.heap.size w w' := by
  have HA := z_ h
  have HT := z_ ht
  clear h ht
  obtain ⟨w1, hw1⟩ : ∃ w1, w1 = w.alloc (.cells #[.int .i64 0] 3) := ⟨_, rfl⟩
  have HB1 := z_ (show Below w.heap.size w w1 from by rw [hw1]; exact below_alloc (Below.refl _ _) _)
  have HG1 := z_ (show w1.heap[w.heap.size]? = some (.cells #[.int .i64 ((0 : Nat) : Int)] 3 (0, 0)) from by rw [hw1]; exact heap_alloc_new w _)
  go_enter Tryd.func68, Tryd.ntmps68
  go_wp2_with fail
  rw [<- hw1]
  clear hw1
  obtain ⟨g, hg⟩ : ∃ g, g = w.heap.size := ⟨_, rfl⟩
  rw [<- hg] at HG1
  rw [<- hg]
  have HGE := z_ hg
  clear hg
  cases t with
  | none =>
    refine (walk_none (HA.out.below HB1.out) root 0 HT.out.at_ _).mono ?_
    rintro e w2 ⟨rfl, hb⟩
    have hc := blk_below HG1.out hb
    have HB2 := z_ (below_step HB1.out hb)
    clear hb
    have k0 : w2.cell? ⟨g, 0, none⟩ = some (.int .i64 ((0 : Nat) : Int)) := blk_cell hc 0
    clear hc
    go_wp2_with fail
    go_ret
    exact ⟨rfl, HB2.out⟩
  | some t =>
    refine (walkD_calls (deep_see HA.out g (by rw [HGE.out]; exact Nat.le_refl _)) HT.out.g.ok t root 0 0 (fun k => k = g) w1 (by have h1 : t.h <= 2048 := HT.out.good.h_le; omega) HT.out.at_ ⟨HB1.out, HG1.out, rfl⟩).mono ?_
    rintro e w2 ⟨rfl, O, ⟨hB, hc, hO⟩, hk, hgr⟩
    have HB2 := z_ hB
    obtain ⟨d, hd⟩ : ∃ d, d = walkS (fun (d : Nat) (_ : Nd) (a : Nat) => max d a) 0 t 0 := ⟨_, rfl⟩
    rw [<- hd] at hc
    have HD := z_ (show ((heightO (some t) : Nat) : Int) = (d : Int) from by rw [hd, walkS_max]; show ((t.h : Nat) : Int) = _; omega)
    have k0 : w2.cell? ⟨g, 0, none⟩ = some (.int .i64 (d : Int)) := blk_cell hc 0
    clear hB hc hO hk hgr hd
    go_wp2_with fail
    go_ret
    exact ⟨by rw [HD.out]; rfl, HB2.out⟩
theorem ArenaM.start {w w1 : World} {size room : Int} (hb : ¬ newBad size room) (ha : ABlk w1 w.heap.size size room (.slice none 0 0) (.slice none 0 0)) (h1 : Below w.heap.size w w1) (X : Nat -> Prop) (hX : ∀ k, X k -> k < w1.heap.size /\ k ≠ w.heap.size) :
    ArenaM w1 w.heap.size w.heap.size size room (.slice none 0 0) (.slice none 0 0) X [] := by
  have hs : 1 <= size /\ size <= 32 := ⟨by by_cases h : size < 1; exact absurd (.inl h) hb; omega, by by_cases h : 32 < size; exact absurd (.inr (.inl h)) hb; omega⟩
  have hm : 1 <= room /\ room <= 4194304 := ⟨by by_cases h : room < 1; exact absurd (.inr (.inr (.inl h))) hb; omega, by by_cases h : 4194304 < room; exact absurd (.inr (.inr (.inr h))) hb; omega⟩
  refine ⟨⟨[], [], ⟨ha, Kd.R_nil _ _ _ _ _, Kd.R_nil _ _ _ _ _, ?_, FreeOk.nil, rfl, fun i o r h => by simp at h, fun k hk => ⟨(hX k hk).1, ?_⟩⟩⟩, Nat.le_refl _, hs, hm, by simp; omega⟩
  · intro k hk h0
    exact absurd h0 (by simp)
  · rintro (h | h | h)
    · exact (hX k hk).2 h
    · simp [Value.ownBlock] at h
    · simp [Value.ownBlock] at h
theorem TreeIn.none (size : Int) {cs : Cs} {root : Int} (h : nodeAt cs root = none) (hg : CsG cs) : TreeIn size cs root none := ⟨h, trivial, hg⟩
theorem nodeAt_nil (i : Int) : nodeAt [] i = none := by
  unfold nodeAt
  split <;> simp
theorem find_leaf {size : Int} {cs : Cs} {t : PT} {i : Int} (ht : IsT cs i t) (hg : Good size t) {x : Lf} (hx : x ∈ t.leaves) (hu : ∀ y ∈ t.leaves, y.id = x.id -> y = x) : (findT (keyB x.id) x.id i t).item = ⟨x.id, x.key, x.since, true⟩ := by
  have hid := (hg.leaf_ok x hx).1
  obtain ⟨S, A, B, e1, e2, e3, e4, e5, e6, _⟩ := ins_down hid t i ht hg
  have hxs : x ∈ S.leaves := by
    rw [e5] at hx
    rcases List.mem_append.1 hx with h | h
    · rcases List.mem_append.1 h with h | h
      · exact absurd rfl (e6 x (List.mem_append_left _ h))
      · exact h
    · exact absurd rfl (e6 x (List.mem_append_right _ h))
  rcases e4 with ⟨n, rfl, hs⟩ | ⟨n, l, r, rfl, hs, hb⟩
  · obtain rfl : x = lfOf n := by simpa [PT.leaves] using hxs
    have hn : (findT (keyB (lfOf n).id) (lfOf n).id i t).node = n := e3.symm
    unfold Spot.item
    rw [hs, decide_eq_true (show n.f1 = (lfOf n).id from rfl), hn]
    rfl
  · exfalso
    obtain ⟨d, hd, hat⟩ := e2.fork_at
    obtain ⟨b, ha, _⟩ := hat x hxs
    rw [hd] at hb
    have := (begins_at ha (keyB_bytes hid) (keyB_bytes hid)).2 (fun _ _ => rfl)
    rw [this] at hb
    cases hb
theorem first_in {size room : Int} (hs : 1 <= size /\ size <= 32) (hr : 1 <= room) {id key : List Int} {since : Int} (ho : BytesOk id) (hk : BytesOk key) (hb : ¬ badIns id key since) :
    ¬ room - (usedN [] : Int) < ((findO (keyB id) id (-1) none).needs : Int) /\ (insAll size (keyB id) id key since (findO (keyB id) id (-1) none) []) = ([some (leafNd size id key since)], 0) := by
  have hn : (findO (keyB id) id (-1) none).needs = 1 := by
    show Spot.needs ⟨[], -1, z39, false⟩ = 1
    unfold Spot.needs
    rw [if_neg (fun h => h.1 rfl)]
    rfl
  rw [hn]
  refine ⟨by show ¬ room - ((0 : Nat) : Int) < ((1 : Nat) : Int); omega, ?_⟩
  show insAll size (keyB id) id key since ⟨[], -1, z39, false⟩ [] = _
  unfold insAll insStart
  rw [if_neg (fun h => h.1 rfl)]
  rfl
theorem no_bad (cs : Cs) {id key : List Int} {since : Int} (h : ¬ badIns id key since) : ¬ (badRoot cs (-1) \/ badIns id key since) := fun h1 => h1.elim (fun h2 => h2.1 rfl) h
theorem leaf_tree {size : Int} (hs : 1 <= size /\ size <= 32) {id key : List Int} {since : Int} (ho : BytesOk id) (hk : BytesOk key) (hb : ¬ badIns id key since) : TreeIn size [some (leafNd size id key since)] 0 (some (.leaf (leafNd size id key since))) :=
  ⟨⟨rfl, rfl⟩, Good.leafOf (not_badIns hb ho hk), by
    unfold badIns at hb
    exact CsG.nil.put (leafNd_g hs id key since ho (by omega) (by omega))⟩
theorem lit_Cx {w : World} {g : Nat} {x : Int} {q : Nat × Nat} (h : w.heap[g]? = some (.cells #[.int .u8 x] 5 q)) : Kd.C (Kd.int .u8) w (some ⟨g, 0, none⟩) 1 [x] := by
  refine Kd.C_of_reads (h1 := fun _ => rfl) (d := 0) ⟨rfl, by decide, fun _ => ⟨_, rfl, fun j hj => ?_⟩⟩
  obtain rfl : j = 0 := by omega
  simp [World.cell?, Addr.add, h]
theorem bytes1 (x : Int) (h : 0 <= x /\ x <= 255) : BytesOk [x] := fun y hy => by obtain rfl : y = x := (by simpa using hy); exact h
set_option maxHeartbeats 8000000 in
set_option maxRecDepth 100000 in
theorem awake10_calls (w : World) (hGS : GlobS w) : Calls Tryd.prog 25 #[] w fun e w' => e = .returned (.bool true) /\ Below w.heap.size w w' := by
  have HGS := z_ hGS
  have HNB := z_ (show ¬ newBad 4 9 from by unfold newBad; omega)
  have HBI := z_ (show ¬ badIns [97] [107] 1 from by unfold badIns; simp)
  clear hGS
  have kc := fun (w : World) (C : Array Value) (n c : Nat) => Lib.run_convert_bytes_const (P := Tryd.prog) w 31 5 C n c Tryd.underlying31 Tryd.underlying5
  have kc2 := fun (W : World) (o : Obj) (C : Array Value) (n c : Nat) => (by have h := kc (W.alloc o) C n c; rw [World.size_alloc] at h; exact h : (convert 31 31 (.slice (some ⟨W.heap.size + 1, 0, none⟩) n c)).run Tryd.prog ((W.alloc o).alloc (.cells C 5)) = .ok (.slice (some ⟨W.heap.size + 1, 0, none⟩) n c) ((W.alloc o).alloc (.cells C 5 (C.size, C.size + 1))))
  go_enter Tryd.func25, Tryd.ntmps25
  go_wp2_with fail
  refine (new_calls 4 9 w (by omega) (by omega) (by omega) (by omega)).mono ?_
  rintro e w1 ⟨rfl, hA, hb1⟩
  have HA := z_ hA
  have HB1 := z_ hb1
  clear hA hb1
  obtain ⟨w2, hw2⟩ : ∃ w2, w2 = w1.alloc (.cells #[.int .u8 97] 5 (1, 2)) := ⟨_, rfl⟩
  have HB2 := z_ (show Below w1.heap.size w1 w2 from by rw [hw2]; exact below_alloc (Below.refl _ _) _)
  have HZ2 := z_ (show w2.heap.size = w1.heap.size + 1 from by rw [hw2]; simp)
  have HI2 := z_ (show w2.heap[w1.heap.size]? = some (.cells #[.int .u8 97] 5 (1, 2)) from by rw [hw2]; exact heap_alloc_new w1 _)
  obtain ⟨w3, hw3⟩ : ∃ w3, w3 = w2.alloc (.cells #[.int .u8 107] 5 (1, 2)) := ⟨_, rfl⟩
  have HB3 := z_ (show Below w2.heap.size w2 w3 from by rw [hw3]; exact below_alloc (Below.refl _ _) _)
  have HS2 := z_ (show w2.heap.size = w1.heap.size + 1 /\ w3.heap.size = w2.heap.size + 1 from ⟨HZ2.out, by rw [hw3]; simp⟩)
  have HI3 := z_ (show w3.heap[w2.heap.size]? = some (.cells #[.int .u8 107] 5 (1, 2)) from by rw [hw3]; exact heap_alloc_new w2 _)
  have HV1 := z_ (show BX w3 (fun k => w1.heap.size <= k /\ k < w3.heap.size) (.slice (some ⟨w1.heap.size, 0, none⟩) ([97] : List Int).length 1) [97] from Kd.V_mk (Nat.le_refl _) (fun W' hW' => lit_Cx ((hW' w1.heap.size ⟨Nat.le_refl _, by have := HS2.out; omega⟩ (by have := HS2.out; omega)).trans (blk_below HI2.out HB3.out))))
  have HV2 := z_ (show BX w3 (fun k => w1.heap.size <= k /\ k < w3.heap.size) (.slice (some ⟨w2.heap.size, 0, none⟩) ([107] : List Int).length 1) [107] from Kd.V_mk (Nat.le_refl _) (fun W' hW' => lit_Cx ((hW' w2.heap.size ⟨by have := HS2.out; omega, by have := HS2.out; omega⟩ (by have := HS2.out; omega)).trans HI3.out)))
  have HBW := z_ (show Below w.heap.size w w3 from HB1.out.trans ((below_step HB2.out HB3.out).mono HB1.out.size))
  have HM3 := z_ (show ArenaM w3 w.heap.size w.heap.size 4 9 (.slice none 0 0) (.slice none 0 0) (fun k => w1.heap.size <= k /\ k < w3.heap.size) [] from ArenaM.start HNB.out (HA.out.below (below_step HB2.out HB3.out)) HBW.out _ (fun k hk => ⟨hk.2, by have := HA.out.lt; omega⟩))
  have HP3 := z_ (show InsPre w3 w.heap.size w.heap.size 4 9 (.slice none 0 0) (.slice none 0 0) (fun k => w1.heap.size <= k /\ k < w3.heap.size) [] (some ⟨w1.heap.size, 0, none⟩) (some ⟨w2.heap.size, 0, none⟩) 1 1 [97] [107] from
    ⟨HM3.out, CsOk.nil, (fun n h => by cases h), HV1.out, HV2.out, bytes1 97 (by omega), bytes1 107 (by omega), by decide, by decide, fun W hW => GlobS.of HGS.out (HBW.out.trans hW)⟩)
  have HEQ := z_ (And.intro hw2 hw3)
  clear hw2 hw3
  go_wp2_with fail
  rw [<- HEQ.out.1, <- HEQ.out.2, show w1.heap.size + 1 = w2.heap.size from HS2.out.1.symm]
  clear HEQ
  refine (insert_calls HP3.out (-1) 1 none (TreeIn.none 4 (nodeAt_nil _) CsG.nil)).mono ?_
  rintro e w4 ⟨i, er, cs', hout, rfl, hA4⟩
  obtain ⟨lf, hlf⟩ : ∃ lf, lf = leafNd 4 [97] [107] 1 := ⟨_, rfl⟩
  have hfi := first_in (size := 4) (room := 9) (by omega) (by omega) (bytes1 97 (by omega)) (bytes1 107 (by omega)) HBI.out
  rw [<- hlf] at hfi
  obtain ⟨rfl, rfl, rfl⟩ : i = 0 /\ er = 0 /\ cs' = [some lf] := by
    rcases hout with ⟨h1, _⟩ | ⟨_, h1, _⟩ | ⟨_, _, h1, h2, h3⟩
    · exact absurd h1 (no_bad _ HBI.out)
    · exact absurd h1 hfi.1
    · rw [hfi.2] at h1 h3
      exact ⟨h1, h2, h3⟩
  obtain ⟨vc', vf', X', hM, _, _, _, hb4⟩ := hA4
  have HM4 := z_ hM
  have HT4 := z_ (show TreeIn 4 [some lf] 0 (some (.leaf lf)) from by rw [hlf]; exact leaf_tree (by omega) (bytes1 97 (by omega)) (bytes1 107 (by omega)) HBI.out)
  have HB4 := z_ (HBW.out.trans hb4)
  have HIT := z_ (show (findO (keyB [97]) [97] 0 (some (.leaf lf))).item = ⟨[97], [107], 1, true⟩ from find_leaf (x := ⟨[97], [107], 1⟩) HT4.out.at_ HT4.out.good (by rw [hlf]; exact List.mem_singleton.2 rfl) (fun y hy _ => by rw [hlf] at hy; exact List.mem_singleton.1 hy))
  clear hout hM hb4 hfi hlf
  obtain ⟨w5, hw5⟩ : ∃ w5, w5 = w4.alloc (.cells #[.int .u8 97] 5 (1, 2)) := ⟨_, rfl⟩
  have HB5 := z_ (show Below w4.heap.size w4 w5 from by rw [hw5]; exact below_alloc (Below.refl _ _) _)
  have HC5 := z_ (show Kd.C (Kd.int .u8) w5 (some ⟨w4.heap.size, 0, none⟩) ([97] : List Int).length [97] from lit_Cx (show w5.heap[w4.heap.size]? = some (.cells #[.int .u8 97] 5 (1, 2)) from by rw [hw5]; exact heap_alloc_new w4 _))
  have HEQ := z_ hw5
  clear hw5
  go_wp2_with fail
  rw [<- HEQ.out]
  clear HEQ
  refine (get_calls (HM4.out.below HB5.out) 0 (some (.leaf lf)) HT4.out (some ⟨w4.heap.size, 0, none⟩) 1 [97] HC5.out (by decide) (bytes1 97 (by omega))).mono ?_
  rintro e w6 ⟨hI, hb⟩
  rw [HIT.out] at hI
  obtain ⟨A1, A2, c1, c2, rfl, x1, x2⟩ := hI
  have HX6 := z_ x2
  have HB6 := z_ (below_step HB5.out hb)
  clear x1 x2 hb
  have v1 := Kd.C_string (P := Tryd.prog) (A := A2) (c := c2) Tryd.underlying31 Tryd.underlying5 Tryd.underlying9 (Kd.C_below (Kd.V_reads' HX6.out).2.2 (below_alloc (Below.refl w6.heap.size w6) (.cells #[.slice A1 ([97] : List Int).length c1, .slice A2 ([107] : List Int).length c2, .int .i64 1] 51)))
  simp only [List.length_cons, List.length_nil, Nat.zero_add] at v1
  have hso : (strOfNums [107]).toList = (⟨#[107]⟩ : ByteArray).toList := by
    rw [ByteArray.toList_eq, ByteArray.toList_eq, strOfNums_data]
    rfl
  have hse : ((strOfNums [107]).toList == (⟨#[107]⟩ : ByteArray).toList) = true := by rw [hso]; simp
  have hse3 : ((strOfNums [107]).toList = (⟨#[107]⟩ : ByteArray).toList) = True := eq_true hso
  go_wp2_with fail
  clear v1 hso hse hse3 kc kc2
  refine (deep_calls (HM4.out.below (below_alloc HB6.out _)) 0 (some (.leaf lf)) HT4.out).mono ?_
  rintro e w8 ⟨rfl, hb⟩
  have HB8 := z_ (HB4.out.trans ((below_step (below_alloc HB6.out _) hb).mono HB4.out.size))
  clear hb
  rw [show ((heightO (some (.leaf lf)) : Nat) : Int) = 0 from rfl]
  go_wp2_with fail
  go_ret
  exact ⟨rfl, HB8.out⟩
theorem needs_le {size : Int} {cs : Cs} {root : Int} {t : Option PT} (h : TreeIn size cs root t) (id : List Int) : (findO (keyB id) id root t).needs <= 2050 := by
  have h1 := h.good.h_le
  have h2 := (way_o cs (keyB id) id root t h.at_).2.2.1
  unfold Spot.needs
  split <;> omega
theorem stay_step {cs cs' : Cs} {root i er since : Int} {t : Option PT} {id key : List Int} {j : Nat} (ht : TreeIn 8 cs root t) (o1 : BytesOk id) (l1 : id.length <= 30) (o2 : BytesOk key) (l2 : key.length <= 100) (hs : 0 <= since) (hu : usedN cs <= 2050 * j) (hj : j <= 30) (hr : t = none -> root = -1) (h : InsOut cs 8 65536 root id key since t i er cs') :
    er = 0 /\ ∃ t', TreeIn 8 cs' i (some t') /\ Ext cs cs' /\ usedN cs' <= 2050 * (j + 1) /\ t'.leaves.length <= (leavesO t).length + 1 /\
      ∃ A S B N, leavesO t = A ++ S ++ B /\ t'.leaves = A ++ N ++ B /\ (∀ y ∈ A ++ B, y.id ≠ id) /\ (((∀ y ∈ S, y.id = id) /\ N = [⟨id, key, since⟩]) \/ ((∀ y ∈ S, y.id ≠ id) /\ (N = ⟨id, key, since⟩ :: S \/ N = S ++ [⟨id, key, since⟩]))) := by
  have hb : ¬ badIns id key since := by unfold badIns; omega
  have hn := needs_le ht id
  have hf : ¬ (65536 : Int) - (usedN cs : Int) < ((findO (keyB id) id root t).needs : Int) := by omega
  have hr2 : ¬ badRoot cs root := by
    rintro ⟨h1, h2⟩
    cases t with
    | none => exact h1 (hr rfl)
    | some t =>
      obtain ⟨n, hn⟩ := ht.root.2
      rw [hn] at h2
      cases h2
  rcases h with ⟨h1, _⟩ | ⟨_, h1, _⟩ | ⟨_, _, rfl, rfl, rfl⟩
  · exact absurd h1 (fun h => h.elim hr2 hb)
  · exact absurd h1 hf
  · obtain ⟨t', k1, k2, k3, k4⟩ := ht.insert (room := 65536) (by omega) o1 o2 hb hf
    refine ⟨rfl, t', k1, k2, by rw [k3]; omega, ?_, k4⟩
    obtain ⟨A, S, B, N, e1, e2, _, e4⟩ := k4
    rw [e1, e2]
    simp only [List.length_append]
    rcases e4 with ⟨_, rfl⟩ | ⟨_, rfl | rfl⟩
    · simp only [List.length_cons, List.length_nil]
      omega
    · simp only [List.length_cons]
      omega
    · simp only [List.length_append, List.length_cons, List.length_nil]
      omega
theorem since_ok (y : Int) : 0 <= wrap64 ((IntKind.u64.wrap y).tmod 200) := by
  have h : 0 <= IntKind.u64.wrap y := by
    have : IntKind.u64.wrap y = y % 18446744073709551616 := by simp [IntKind.wrap, IntKind.bits, IntKind.signed]
    omega
  have h1 := Int.tmod_nonneg 200 h
  have h2 := Int.tmod_lt_of_pos (IntKind.u64.wrap y) (show (0 : Int) < 200 by decide)
  rw [wrap64_id _ (by omega)]
  exact h1
theorem V_of_C59 {w : World} {A : Option Addr} {c : Nat} {l : List S59} (h : Kd.C k59 w A l.length l) (hc : l.length <= c) : Kd.V k59 59 w w.heap.size (fun k => k < w.heap.size) (.slice A l.length c) l := Kd.V_mk hc (fun W' hW => by
  have hsz : w.heap.size <= W'.heap.size := by
    rcases Nat.eq_zero_or_pos w.heap.size with h0 | h0
    · omega
    · have := heap_lt (hW (w.heap.size - 1) (by omega) (by omega)) (by omega)
      omega
  have hb : Below w.heap.size w { W' with os := w.os, tape := w.tape, output := w.output } := ⟨rfl, rfl, rfl, hsz, fun k hk => hW k hk hk⟩
  have hx := Kd.C_below h hb
  exact hx)
theorem V_one {W : World} {g : Nat} {ok : Nat -> Prop} {A1 A2 : Option Addr} {c1 c2 : Nat} {id key : List Int} {since : Int} (hg : W.heap[g]? = some (.cells #[.slice A1 id.length c1, .slice A2 key.length c2, .int .i64 since] 59 (0, 0))) (hok : ok g) (v1 : BX W ok (.slice A1 id.length c1) id) (v2 : BX W ok (.slice A2 key.length c2) key) (e base : Nat) :
    Kd.V k59 e W base ok (.slice (some ⟨g, 0, none⟩) 1 1) [⟨id, key, since⟩] :=
  Kd.V_mk (xs := [(⟨id, key, since⟩ : S59)]) (Nat.le_refl 1) (fun W' hW' => ⟨rfl, by simp, fun _ => ⟨_, rfl, fun j p hj => by
    cases j with
    | succ j => simp at hj
    | zero =>
      obtain rfl : (⟨id, key, since⟩ : S59) = p := by simpa using hj
      have hg' := (hW' g hok (blk_lt hg)).trans hg
      refine ⟨[.slice A1 id.length c1, .slice A2 key.length c2, .int .i64 since], rfl, k59_mk W' _ (Kd.V_reads' v1).2.1 (Kd.V_F v1 W' hW') (Kd.V_reads' v2).2.1 (Kd.V_F v2 W' hW'), fun i u hu => ?_⟩
      rw [add_at, Nat.zero_mul, Nat.zero_add, Nat.zero_add, blk_cell hg']
      simpa using hu⟩⟩)
def ItB' (w : World) (g : Nat) (r : List Value) : Prop := w.heap[g]? = some (.cells r.toArray 59 (0, 0))
theorem ItB'.cells {w : World} {g : Nat} {y0 y1 y2 : Value} (h : ItB' w g [y0, y1, y2]) : w.cell? ⟨g, 0, none⟩ = some y0 /\ w.cell? ⟨g, 1, none⟩ = some y1 /\ w.cell? ⟨g, 2, none⟩ = some y2 :=
  ⟨blk_cell h 0, blk_cell h 1, blk_cell h 2⟩
set_option maxHeartbeats 8000000 in
set_option maxRecDepth 100000 in
theorem ptreeStays_true (A0 : Option Addr) (c0 : Nat) (l0 : List S59) (A1 : Option Addr) (c1 : Nat) (id : List Int) (A2 : Option Addr) (c2 : Nat) (key : List Int) (since : Int) (w : World)
    (hr0 : Kd.C k59 w A0 l0.length l0) (hc0 : l0.length <= c0) (o0 : ∀ x ∈ l0, BytesOk x.f0 /\ BytesOk x.f1) (h1 : Kd.C (Kd.int .u8) w A1 id.length id) (hc1 : id.length <= c1) (o1 : BytesOk id) (h2 : Kd.C (Kd.int .u8) w A2 key.length key) (hc2 : key.length <= c2) (o2 : BytesOk key) (hGS : GlobS w) :
    Calls Tryd.prog 7 #[.slice A0 l0.length c0, .agg #[.slice A1 id.length c1, .slice A2 key.length c2, .int .i64 since]] w fun e w' => e = .returned (.bool true) /\ Below w.heap.size w w' := by
  have HGS := z_ hGS
  have HV0 := z_ (V_of_C59 hr0 hc0)
  have HV1 := z_ (V_of_C 5 h1 hc1)
  have HV2 := z_ (V_of_C 5 h2 hc2)
  have HO := z_ (And.intro o0 (And.intro o1 o2))
  have HNB := z_ (show ¬ newBad 8 65536 from by unfold newBad; omega)
  clear hGS hr0 hc0 o0 h1 hc1 o1 h2 hc2 o2
  obtain ⟨wa, hwa⟩ : ∃ wa, wa = w.alloc (.cells #[.slice A1 id.length c1, .slice A2 key.length c2, .int .i64 since] 59) := ⟨_, rfl⟩
  have HBA := z_ (show Below w.heap.size w wa from by rw [hwa]; exact below_alloc (Below.refl _ _) _)
  have HG := z_ (show wa.heap[w.heap.size]? = some (.cells #[.slice A1 id.length c1, .slice A2 key.length c2, .int .i64 since] 59 (0, 0)) from by rw [hwa]; exact heap_alloc_new w _)
  have HSZ := z_ (show wa.heap.size = w.heap.size + 1 from by rw [hwa]; simp)
  go_enter Tryd.func7, Tryd.ntmps7
  go_wp2_with fail
  rw [<- hwa]
  clear hwa
  refine (new_calls 8 65536 wa (by omega) (by omega) (by omega) (by omega)).mono ?_
  rintro e w1 ⟨rfl, hA, hb1⟩
  have HA := z_ hA
  have HB1 := z_ hb1
  clear hA hb1
  obtain ⟨g3, hg3⟩ : ∃ x, x = w.heap.size := ⟨_, rfl⟩
  obtain ⟨p, hp⟩ : ∃ x, x = wa.heap.size := ⟨_, rfl⟩
  rw [<- hp]
  have HE := z_ (And.intro hg3 hp)
  clear hg3 hp
  go_wp2_with fail
  refine (annalslaw10_few.calls (l0.length + 1) (fun k => k < w.heap.size) A0 c0 l0 (fewL l0) w1 (Kd.V_below HV0.out (below_step HBA.out HB1.out)) (few_f l0 (Kd.C_max (Kd.V_reads' HV0.out).2.2))).mono ?_
  rintro e w2 ⟨v2, rfl, hN2, hb2⟩
  obtain ⟨Af, cf, rfl⟩ := Kd.N_slice hN2
  have HNF := z_ (Kd.N_bound hN2)
  obtain ⟨fl, hfl⟩ : ∃ fl, fl = fewL l0 := ⟨_, rfl⟩
  rw [<- hfl] at HNF
  rw [<- hfl]
  have HFL := z_ (show fl.length <= 30 /\ ∀ x ∈ fl, BytesOk x.f0 /\ x.f0.length <= 30 /\ BytesOk x.f1 /\ x.f1.length <= 100 from by
    rw [hfl]
    unfold fewL
    refine ⟨by rw [List.length_map, List.length_take]; omega, fun x hx => ?_⟩
    obtain ⟨y, hy, rfl⟩ := List.mem_map.1 hx
    have := HO.out.1 y (List.mem_of_mem_take hy)
    exact ⟨fun q hq => this.1 q (List.mem_of_mem_take hq), by show (y.f0.take 30).length <= 30; rw [List.length_take]; omega, fun q hq => this.2 q (List.mem_of_mem_take hq), by show (y.f1.take 100).length <= 100; rw [List.length_take]; omega⟩)
  have HB2 := z_ (show Below wa.heap.size wa w2 from HB1.out.trans (hb2.mono HB1.out.size))
  obtain ⟨X0, hX0⟩ : ∃ X0 : Nat -> Prop, X0 = fun k => k < w2.heap.size /\ k ≠ p /\ k ≠ g3 := ⟨_, rfl⟩
  have HX0 := z_ (show ∀ k, X0 k ↔ k < w2.heap.size /\ k ≠ p /\ k ≠ g3 from fun k => by rw [hX0])
  have HM0 := z_ (show ArenaM w2 p p 8 65536 (.slice none 0 0) (.slice none 0 0) X0 [] from by
    rw [HE.out.2]
    exact ArenaM.start HNB.out (HA.out.below hb2) HB2.out X0 (fun k hk => by
      have := (HX0.out k).1 hk
      exact ⟨this.1, by rw [<- HE.out.2]; exact this.2.1⟩))
  have HFX := z_ (show ∀ k, ((k < w.heap.size \/ w1.heap.size <= k) /\ k < w2.heap.size) -> X0 k from fun k hk => (HX0.out k).2 (by
    have h1 := HE.out
    have h2 := HSZ.out
    have h3 := HA.out.lt
    omega))
  clear hN2 hb2 hfl hX0
  go_wp2_with fail
  go_loopg [7, 31] (fl.length + 1) (fun kq v7 v31 wr => ∃ (j : Nat) (root : Int) (t : Option PT) (cs : Cs) (vc vf : Value) (X : Nat -> Prop), v7 = .int .i64 root /\ v31 = .int .i64 (j : Int) /\ Aside0 (kq + j = fl.length + 1 /\ j <= fl.length) /\ Aside0 (ArenaM wr p p 8 65536 vc vf X cs /\ (∀ k, X0 k -> X k) /\ (∀ k, X k -> X0 k \/ w2.heap.size <= k) /\ ∀ k, OwnS p vc vf k -> k = p \/ w2.heap.size <= k) /\ Aside0 (TreeIn 8 cs root t /\ usedN cs <= 2050 * j /\ (leavesO t).length <= j /\ (t = none -> root = -1)) /\ Aside0 (Kept w2 wr (fun k => k = p) /\ Below p w2 wr))
  case atStart =>
    exact ⟨0, -1, none, [], _, _, X0, rfl, by first | rfl | simp, ⟨rfl, Nat.zero_le _⟩, ⟨HM0.out, fun _ h => h, fun _ h => .inl h, fun k hk => by
      rcases hk with h | h | h
      · exact .inl h
      · simp [Value.ownBlock] at h
      · simp [Value.ownBlock] at h⟩, ⟨TreeIn.none 8 (nodeAt_nil _) CsG.nil, by simp [usedN], by simp [leavesO], fun _ => rfl⟩, ⟨Kept.refl _ _, Below.refl _ _⟩⟩
  case round =>
    obtain ⟨j, root, t, cs, vc, vf, X, rfl, rfl, HK, HM, HT, HKT⟩ := hrel
    by_cases hlt : j < fl.length
    · have hd : decide ((j : Int) < (fl.length : Int)) = true := by simp; omega
      have hd2 : decide (0 <= (j : Int)) = true := by simp
      obtain ⟨k1, rfl⟩ : ∃ k1, gk = k1 + 1 := ⟨gk - 1, by have := HK.out; omega⟩
      have hNr := Kd.N_step HNF.out (w1 := wr) (fun k hk hl => HKT.out.1.2 k hl (((HX0.out k).1 (HFX.out k hk)).2.1))
      obtain ⟨gb, cap, he, hgb, _, _⟩ := Kd.N_form hNr (by omega)
      injection he with e1 e2 e3
      subst e1 e3
      obtain ⟨c, hcl, hFK, hcc, hfr⟩ := Kd.N_elem hNr z59 (j : Int) (by omega) (by omega)
      obtain ⟨x, hx⟩ : ∃ x, x = fl.getD ((j : Int)).toNat z59 := ⟨_, rfl⟩
      have hxm : x ∈ fl := by rw [hx, Int.toNat_natCast, List.getD_eq_getElem?_getD, List.getElem?_eq_getElem hlt]; exact List.getElem_mem hlt
      rw [<- hx] at hFK
      obtain ⟨B1, d1, B2, d2, rfl, l1, F1, l2, F2⟩ := k59_openF hFK
      have x0 := hcc 0 _ rfl
      have x1 := hcc 1 _ rfl
      have x2 := hcc 2 _ rfl
      simp only [show k59.sz = 3 from rfl, Int.toNat_natCast, Nat.add_zero] at x0 x1 x2
      have HXO := z_ (HFL.out.2 x hxm)
      obtain ⟨w3, hw3⟩ : ∃ w3, w3 = wr.alloc (.cells #[.slice B1 x.f0.length d1, .slice B2 x.f1.length d2, .int .i64 x.f2] 59) := ⟨_, rfl⟩
      have HB3 := z_ (show Below wr.heap.size wr w3 from by rw [hw3]; exact below_alloc (Below.refl _ _) _)
      have hF : ∀ {A : Option Addr} {c : Nat} {l : List Int}, l.length <= c -> Kd.F (Kd.int .u8) wr (fun k => ((k < w.heap.size \/ w1.heap.size <= k) /\ k < w2.heap.size) /\ k ≠ gb) A l.length l -> BX w3 X (.slice A l.length c) l := fun hc hf =>
        Kd.V_below ⟨_, _, rfl, hc, Kd.F_mono hf (fun k hk => HM.out.2.1 k (HFX.out k hk.1))⟩ HB3.out
      have HPRE := z_ (show InsPre w3 p p 8 65536 vc vf X cs B1 B2 d1 d2 x.f0 x.f1 from
        ⟨HM.out.1.below HB3.out, HT.out.1.g.ok, fun n hn => (HT.out.1.g n hn).h9, hF l1 F1, hF l2 F2, HXO.out.1, HXO.out.2.2.1, by have := HXO.out.2.1; omega, by have := HXO.out.2.2.2; omega, fun W hW => by
          have h1 : Below p w2 W := HKT.out.2.trans ((HB3.out.mono (by have := HKT.out.1.1; have := HM0.out.hb; have := blkA HM.out.1; have := this.lt; omega)).trans hW)
          rw [HE.out.2] at h1
          exact GlobS.of HGS.out (HBA.out.trans ((HB2.out.trans h1).mono HBA.out.size))⟩)
      clear hx hFK hcc hfr l1 F1 l2 F2 hcl hxm hF hNr
      go_wp2_with fail
      rw [<- hw3]
      clear hw3 x0 x1 x2
      refine (insert_calls HPRE.out root _ t HT.out.1).mono ?_
      rintro e w4 ⟨i, er, cs', hout, rfl, hA4⟩
      obtain ⟨rfl, t', k1, k2, k3, k4, _⟩ := stay_step HT.out.1 HXO.out.1 HXO.out.2.1 HXO.out.2.2.1 HXO.out.2.2.2 (since_ok _) HT.out.2.1 (by have := HFL.out.1; omega) HT.out.2.2.2 hout
      obtain ⟨vc', vf', X', m1, m2, m3, m4, m5, m6⟩ := (HM.out.1.below HB3.out).next hA4
      have HT4 := z_ (And.intro k1 (And.intro k3 k4))
      have HM4 := z_ (And.intro m1 (And.intro m2 (And.intro m3 (And.intro m4 (And.intro m5 m6)))))
      clear hout hA4 k1 k2 k3 k4 m1 m2 m3 m4 m5 m6
      have hw : wrap64 ((j : Int) + 1) = ((j + 1 : Nat) : Int) := by rw [wrap64_id _ (by have := HFL.out.1; omega)]; omega
      go_wp2_with fail
      have hK := HK.out
      have hz1 := HKT.out.1.1
      have hz2 := HB3.out.size
      have hT := HT.out.2
      go_roundg k1
      case measure => omega
      case rel => exact ⟨j + 1, i, some t', cs', vc', vf', X', rfl, by first | rfl | rw [hw], ⟨by omega, by omega⟩, ⟨HM4.out.1, fun k hk => HM4.out.2.1 k (HM.out.2.1 k hk), fun k hk => (HM4.out.2.2.1 k hk).elim (HM.out.2.2.1 k) (fun h => .inr (by omega)), fun k hk => (HM4.out.2.2.2.1 k hk).elim (HM.out.2.2.2 k) (fun h => .inr (by omega))⟩, ⟨HT4.out.1, HT4.out.2.1, by have h1 : t'.leaves.length <= (leavesO t).length + 1 := HT4.out.2.2; show t'.leaves.length <= j + 1; omega, fun h => by cases h⟩, ⟨(HKT.out.1.then_ (Kept.of_below HB3.out _) (fun _ hk => .inl hk)).then_ HM4.out.2.2.2.2.1 (fun k hk => HM.out.2.2.2 k hk), HKT.out.2.trans ((HB3.out.mono (by have := HM0.out.hb; have := (blkA HM.out.1).lt; omega)).trans HM4.out.2.2.2.2.2)⟩⟩
    · obtain rfl : j = fl.length := by have := HK.out; omega
      have hd : decide ((fl.length : Int) < (fl.length : Int)) = false := by simp
      go_wp2_with fail
      refine (items_calls HM.out.1 root t HT.out.1 (by have := HT.out.2.2.1; have := HFL.out.1; omega)).mono ?_
      rintro e w3 ⟨vI, rfl, hNI, hbI⟩
      obtain ⟨AI, cI, rfl⟩ := Kd.N_slice hNI
      obtain ⟨nI, hnI⟩ : ∃ x, x = ((leavesO t).map sOf).length := ⟨_, rfl⟩
      rw [<- hnI] at hNI
      rw [<- hnI]
      have HNIL := z_ hnI
      have HNI := z_ hNI
      have HB3 := z_ hbI
      have HSI := z_ (show ∀ k, some k = (Value.slice AI nI cI).ownBlock -> wr.heap.size <= k /\ k < w3.heap.size from fun k hk => ⟨Kd.N_base hNI k hk.symm, Kd.N_lt hNI k hk.symm⟩)
      clear hNI hbI hnI
      go_wp2_with fail
      have hgl : ∀ W, Below p w2 W -> GlobS W := fun W hW => by
        rw [HE.out.2] at hW
        exact GlobS.of HGS.out (HBA.out.trans ((HB2.out.trans hW).mono HBA.out.size))
      have HGL := z_ hgl
      clear hgl
      have hps : p <= wr.heap.size := by have := (blkA HM.out.1).lt; omega
      have HBR := z_ (show Below p w2 w3 from HKT.out.2.trans (HB3.out.mono hps))
      refine (hashA_calls (HM.out.1.below HB3.out) root (fun n hn => (HT.out.1.g.ok.at root n hn).1.2.2.2) (HGL.out _ HBR.out)).mono ?_
      rintro e w4 ⟨⟨vH, rfl, hH⟩, hb4⟩
      obtain ⟨AH, cH, rfl, hcH, hFH⟩ := hH
      have HH := z_ (show BX w4 (fun k => w3.heap.size <= k) (.slice AH (hashAt 8 cs root).length cH) (hashAt 8 cs root) from ⟨AH, cH, rfl, hcH, hFH⟩)
      have HB4 := z_ hb4
      clear hb4 hcH hFH
      obtain ⟨hs, hhs⟩ : ∃ x, x = hashAt 8 cs root := ⟨_, rfl⟩
      rw [<- hhs] at HH
      rw [<- hhs]
      have HHS := z_ hhs
      clear hhs
      have HG4 := z_ (show w4.heap[g3]? = some (.cells #[.slice A1 id.length c1, .slice A2 key.length c2, .int .i64 since] 59 (0, 0)) from by
        have h1 := blk_below HG.out HB2.out
        rw [<- HE.out.1] at h1
        have h2 : g3 ≠ p := by have := HE.out; have := HSZ.out; omega
        exact blk_below ((HKT.out.1.2 g3 (blk_lt h1) h2).trans h1) (below_step HB3.out HB4.out))
      rw [<- HE.out.1]
      obtain ⟨k0, k1, k2⟩ := (show ItB' w4 g3 [.slice A1 id.length c1, .slice A2 key.length c2, .int .i64 since] from HG4.out).cells
      go_wp2_with fail
      clear k0 k1 k2
      obtain ⟨w5, hw5⟩ : ∃ w5, w5 = w4.alloc (.cells #[.slice A1 id.length c1, .slice A2 key.length c2, .int .i64 since] 59) := ⟨_, rfl⟩
      have HB5 := z_ (show Below w4.heap.size w4 w5 from by rw [hw5]; exact below_alloc (Below.refl _ _) _)
      have HN5 := z_ (show w5.heap[w4.heap.size]? = some (.cells #[.slice A1 id.length c1, .slice A2 key.length c2, .int .i64 since] 59 (0, 0)) from by rw [hw5]; exact heap_alloc_new w4 _)
      rw [<- hw5]
      clear hw5
      have HBR5 := z_ (below_step (below_step HB3.out HB4.out) HB5.out)
      have HKW := z_ (show ∀ k, k < w.heap.size -> w5.heap[k]? = w.heap[k]? from fun k hk => by
        have h1 := HE.out
        have h2 := HBA.out.size
        have h3 := HB2.out.size
        have h4 := HKT.out.1.1
        exact (HBR5.out.block k (by omega)).trans ((HKT.out.1.2 k (by omega) (by omega)).trans ((HB2.out.block k (by omega)).trans (HBA.out.block k hk))))
      have HP0 := z_ (show BX w5 (fun k => k < w.heap.size \/ w4.heap.size <= k) (.slice A1 id.length c1) id /\ BX w5 (fun k => k < w.heap.size \/ w4.heap.size <= k) (.slice A2 key.length c2) key from
        ⟨Kd.V_mono (Kd.V_step HV1.out (fun k hk _ => HKW.out k hk)) (fun k hk => .inl hk), Kd.V_mono (Kd.V_step HV2.out (fun k hk _ => HKW.out k hk)) (fun k hk => .inl hk)⟩)
      refine (annalslaw10_few.calls 2 (fun k => k < w.heap.size \/ w4.heap.size <= k) (some ⟨w4.heap.size, 0, none⟩) 1 [⟨id, key, since⟩] (fewL [⟨id, key, since⟩]) w5 (V_one HN5.out (.inr (Nat.le_refl _)) HP0.out.1 HP0.out.2 _ _) (few_f [⟨id, key, since⟩] (by simp))).mono ?_
      rintro e w6 ⟨v6, rfl, hN6, hb6⟩
      have hN6 := Kd.N_bound hN6
      obtain ⟨gf, capf, rfl, hgf, _, _⟩ := Kd.N_form hN6 (by simp [fewL])
      obtain ⟨c, hcl, hFK, hcc, hfr⟩ := Kd.N_elem hN6 z59 (0 : Int) (by omega) (by simp [fewL])
      obtain ⟨id', hid'⟩ : ∃ x, x = id.take 30 := ⟨_, rfl⟩
      obtain ⟨key', hkey'⟩ : ∃ x, x = key.take 100 := ⟨_, rfl⟩
      rw [show (fewL [⟨id, key, since⟩]).getD ((0 : Int)).toNat z59 = ⟨id', key', since⟩ from by rw [hid', hkey']; rfl] at hFK
      obtain ⟨B1, d1, B2, d2, rfl, l1, F1, l2, F2⟩ := k59_openF hFK
      have x0 : w6.cell? ⟨gf, 0, none⟩ = some (.slice B1 id'.length d1) := hcc 0 _ rfl
      have x1 : w6.cell? ⟨gf, 1, none⟩ = some (.slice B2 key'.length d2) := hcc 1 _ rfl
      have x2 : w6.cell? ⟨gf, 2, none⟩ = some (.int .i64 since) := hcc 2 _ rfl
      have HIO := z_ (show BytesOk id' /\ id'.length <= 30 /\ BytesOk key' /\ key'.length <= 100 from by
        rw [hid', hkey']
        exact ⟨fun q hq => HO.out.2.1 q (List.mem_of_mem_take hq), by rw [List.length_take]; omega, fun q hq => HO.out.2.2 q (List.mem_of_mem_take hq), by rw [List.length_take]; omega⟩)
      have HFI := z_ (And.intro l1 (And.intro F1 (And.intro l2 F2)))
      have HB6 := z_ hb6
      have HG6 := z_ (blk_below HG4.out (below_step HB5.out hb6))
      have hl1 : (fewL [(⟨id, key, since⟩ : S59)]).length = 1 := rfl
      rw [hl1]
      clear hid' hkey' hFK hcc hfr l1 F1 l2 F2 hcl hN6 hb6 hl1
      obtain ⟨k0, k1, k2⟩ := (show ItB' w6 g3 [.slice A1 id.length c1, .slice A2 key.length c2, .int .i64 since] from HG6.out).cells
      have f0 := blk_frozen HG6.out 0
      have f1 := blk_frozen HG6.out 1
      have f2 := blk_frozen HG6.out 2
      go_wp2_with fail
      obtain ⟨w7, hw7⟩ : ∃ w7, w7 = ((w6.setCell ⟨g3, 0, none⟩ (.slice B1 id'.length d1)).setCell ⟨g3, 1, none⟩ (.slice B2 key'.length d2)).setCell ⟨g3, 2, none⟩ (.int .i64 since) := ⟨_, rfl⟩
      rw [<- hw7]
      have HW7 := z_ (show w7 = putI w6 g3 (.slice B1 id'.length d1) (.slice B2 key'.length d2) (.int .i64 since) from hw7)
      have HG7 := z_ (show w7.heap[g3]? = some (.cells #[.slice B1 id'.length d1, .slice B2 key'.length d2, .int .i64 since] 59 (0, 0)) from by
        rw [hw7]
        exact blk_set (blk_set (blk_set HG6.out 0 _) 1 _) 2 _)
      clear k0 k1 k2 f0 f1 f2 x0 x1 x2 hw7
      have HBR6 := z_ (below_step HBR5.out HB6.out)
      have HF7 := z_ (show (∀ k, k ≠ g3 -> w7.heap[k]? = w6.heap[k]?) /\ w6.heap.size <= w7.heap.size from by
        rw [HW7.out]
        exact ⟨fun k hk => putI_far hk _ _ _, by unfold putI; simp only [World.size_setCell]; exact Nat.le_refl _⟩)
      obtain ⟨X6, hX6⟩ : ∃ X6 : Nat -> Prop, X6 = fun k => X k \/ ((wr.heap.size <= k /\ k < w6.heap.size) /\ some k ≠ (Value.slice AI nI cI).ownBlock) := ⟨_, rfl⟩
      have HX6 := z_ (show (∀ k, X k -> X6 k) /\ (∀ k, w3.heap.size <= k -> k < w6.heap.size -> X6 k) /\ (∀ k, X6 k -> k ≠ g3) /\ (∀ k, X6 k -> some k ≠ (Value.slice AI nI cI).ownBlock) from by
        rw [hX6]
        refine ⟨fun k hk => .inl hk, fun k h1 h2 => .inr ⟨⟨by have := HB3.out.size; omega, h2⟩, fun he => by have := HSI.out k he; omega⟩, fun k hk => ?_, fun k hk he => ?_⟩
        rotate_left
        · rcases hk with hk | hk
          · have h1 := (HM.out.1.sep k hk).1
            have h2 := HSI.out k he
            omega
          · exact hk.2 he
        have h1 := blk_lt HG.out
        have h2 := HB2.out.size
        have h3 := HKT.out.1.1
        have h4 := HE.out
        rcases hk with hk | hk
        · rcases HM.out.2.2.1 k hk with h | h
          · exact ((HX0.out k).1 h).2.2
          · omega
        · omega)
      have HM7 := z_ (show ArenaM w7 p p 8 65536 vc vf X6 cs from by
        have hlt : ∀ k, OwnS p vc vf k -> k < wr.heap.size := fun k ho => by
          obtain ⟨rows, fr, hv⟩ := HM.out.1.mem
          exact hv.own_lt k ho
        have h6 := (HM.out.1.below HBR6.out).more (fun k => (wr.heap.size <= k /\ k < w6.heap.size) /\ some k ≠ (Value.slice AI nI cI).ownBlock) (fun k hk => ⟨hk.1.2, fun ho => by have := hlt k ho; omega⟩)
        rw [<- hX6] at h6
        refine h6.step HF7.out.2 (fun k _ hk => HF7.out.1 k ?_) (fun _ hk => hk) (fun k hk => ⟨Nat.lt_of_lt_of_le (h6.sep k hk).1 HF7.out.2, (h6.sep k hk).2⟩)
        rcases hk with hk | hk
        · have h1 := blk_lt HG.out
          have h2 := HB2.out.size
          have h4 := HE.out
          have h5 := HSZ.out
          rcases HM.out.2.2.2 k hk with h | h <;> omega
        · exact HX6.out.2.2.1 k hk)
      clear hX6
      have HBW7 := z_ (show Below w.heap.size w w7 from by
        rw [HW7.out]
        refine putI_below ?_ (by have := HE.out; omega) _ _ _
        have h1 : Below w.heap.size w2 w6 := (HKT.out.2.trans (HBR6.out.mono hps)).mono (by have := HE.out; have := HBA.out.size; omega)
        exact HBA.out.trans (HB2.out.mono HBA.out.size |>.trans h1))
      have HGW := z_ (show ∀ W, Below p w7 W -> GlobS W from fun W hW => GlobS.of HGS.out (HBW7.out.trans (hW.mono (by have := HE.out; have := HBA.out.size; omega))))
      have hF7 : ∀ {A : Option Addr} {c : Nat} {l : List Int}, l.length <= c -> Kd.F (Kd.int .u8) w6 (fun k => (((k < w.heap.size \/ w4.heap.size <= k) \/ w5.heap.size <= k) /\ k < w6.heap.size) /\ k ≠ gf) A l.length l -> BX w7 X6 (.slice A l.length c) l := fun hc hf => by
        have hx : ∀ k, (((k < w.heap.size \/ w4.heap.size <= k) \/ w5.heap.size <= k) /\ k < w6.heap.size) /\ k ≠ gf -> X6 k := fun k hk => by
          have h1 := HBR5.out.size
          have h2 := (below_step HB3.out HB4.out).size
          by_cases hk1 : wr.heap.size <= k
          · exact HX6.out.2.1 k (by have h3 := HBA.out.size; have h4 := HB2.out.size; have h5 := HKT.out.1.1; have h6 := HB4.out.size; have h7 := HB5.out.size; omega) hk.1.2
          · have h3 := HB2.out.size
            have h4 := HBA.out.size
            exact HX6.out.1 k (HM.out.2.1 k (HFX.out k ⟨.inl (by omega), by omega⟩))
        exact Kd.V_step (show BX w6 X6 _ _ from ⟨_, _, rfl, hc, Kd.F_mono hf hx⟩) (fun k hk _ => HF7.out.1 k (HX6.out.2.2.1 k hk))
      have HPRE := z_ (show InsPre w7 p p 8 65536 vc vf X6 cs B1 B2 d1 d2 id' key' from
        ⟨HM7.out, HT.out.1.g.ok, fun n hn => (HT.out.1.g n hn).h9, hF7 HFI.out.1 HFI.out.2.1, hF7 HFI.out.2.2.1 HFI.out.2.2.2, HIO.out.1, HIO.out.2.2.1, by have := HIO.out.2.1; omega, by have := HIO.out.2.2.2; omega, HGW.out⟩)
      clear hF7
      refine (insert_calls HPRE.out root 5 t HT.out.1).mono ?_
      rintro e w8 ⟨i, er, cs', hout, rfl, hA8⟩
      obtain ⟨rfl, t', k1, k2, k3, k4, k5⟩ := stay_step (j := 30) HT.out.1 HIO.out.1 HIO.out.2.1 HIO.out.2.2.1 HIO.out.2.2.2 (by decide) (by have := HT.out.2.1; have := HFL.out.1; omega) (Nat.le_refl _) HT.out.2.2.2 hout
      obtain ⟨vc', vf', X8, m1, m2, m3, m4, m5, m6⟩ := HM7.out.next hA8
      have HT8 := z_ (And.intro k1 (And.intro k2 (And.intro k4 k5)))
      have HM8 := z_ (And.intro m1 (And.intro m2 (And.intro m3 (And.intro m4 (And.intro m5 m6)))))
      clear hout hA8 k1 k2 k3 k4 k5 m1 m2 m3 m4 m5 m6
      go_wp2_with fail
      have HND := z_ (show nodeAt cs' root = nodeAt cs root from by
        cases t with
        | none =>
          have hr := HT.out.2.2.2 rfl
          rw [hr, nodeAt_neg cs' (-1) (by omega), nodeAt_neg cs (-1) (by omega)]
        | some t =>
          obtain ⟨n, hn⟩ := HT.out.1.root.2
          rw [HT8.out.2.1 root n hn, hn])
      have HTO := z_ (show TreeIn 8 cs' root t from ⟨by
        cases t with
        | none => exact HND.out.trans HT.out.1.at_
        | some t => exact IsT.ext HT8.out.2.1 HT.out.1.at_, HT.out.1.good, HT8.out.1.g⟩)
      have HSM := z_ (show ∀ k, X k \/ wr.heap.size <= k -> k < w6.heap.size -> w8.heap[k]? = w6.heap[k]? from fun k hx hk => by
        have h1 : ¬ OwnS p vc vf k /\ k ≠ g3 := by
          rcases hx with hx | hx
          · exact ⟨(HM.out.1.sep k hx).2, HX6.out.2.2.1 k (HX6.out.1 k hx)⟩
          · refine ⟨fun ho => ?_, ?_⟩
            · obtain ⟨rows, fr, hv⟩ := HM.out.1.mem
              have := hv.own_lt k ho
              omega
            · have h1 := blk_lt HG.out
              have h2 := HB2.out.size
              have h3 := HKT.out.1.1
              have h4 := HE.out
              omega
        exact (HM8.out.2.2.2.2.1.2 k (Nat.lt_of_lt_of_le hk HF7.out.2) h1.1).trans (HF7.out.1 k h1.2))
      have HG8 := z_ (show w8.heap[g3]? = some (.cells #[.slice B1 id'.length d1, .slice B2 key'.length d2, .int .i64 since] 59 (0, 0)) from (HM8.out.2.2.2.2.1.2 g3 (blk_lt HG7.out) (fun ho => by
        have h1 := blk_lt HG.out
        have h2 := HB2.out.size
        have h4 := HE.out
        have h5 := HSZ.out
        rcases HM.out.2.2.2 g3 ho with h | h <;> omega)).trans HG7.out)
      have HLL := z_ (show (leavesO t).length <= 30 from by have := HT.out.2.2.1; have := HFL.out.1; omega)
      refine (items_calls HM8.out.1 root t HTO.out (by have := HLL.out; omega)).mono ?_
      rintro e w9 ⟨v9, rfl, hN9, hb9⟩
      have HN9 := z_ hN9
      have HB9 := z_ hb9
      obtain ⟨sl, hsl⟩ : ∃ x, x = (leavesO t).map sOf := ⟨_, rfl⟩
      rw [<- hsl] at HN9 HNI
      have HSL := z_ hsl
      clear hsl hN9 hb9
      obtain ⟨A9, c9, rfl⟩ := Kd.N_slice HN9.out
      have hnl : nI = sl.length := by rw [HNIL.out, HSL.out]
      rw [hnl] at HNI HSI
      have HAI := z_ (show ∀ k, X6 k -> some k ≠ (Value.slice AI sl.length cI).ownBlock from by rw [<- hnl]; exact HX6.out.2.2.2)
      rw [hnl]
      clear hnl
      have HNI8 := z_ (show Kd.N k51 51 w8 wr.heap.size (fun k => (X k \/ wr.heap.size <= k) /\ k < w3.heap.size) (.slice AI sl.length cI) sl from
        Kd.N_step (Kd.N_below (Kd.N_bound HNI.out) (below_step (below_step HB4.out HB5.out) HB6.out)) (fun k hk hl => HSM.out k hk.1 hl))
      have HSLL := z_ (show sl.length <= 30 from by rw [HSL.out, List.length_map]; exact HLL.out)
      go_wp2_with fail
      refine (annalsref10_SameItems.calls (sl.length + 1) A9 c9 sl AI cI sl true w9 (Kd.N_reads' HN9.out).2.2 (Kd.N_reads' HN9.out).2.1 (Kd.N_reads' (Kd.N_below HNI8.out HB9.out)).2.2 (Kd.N_reads' HNI8.out).2.1 (same_f sl (by have := HSLL.out; omega))).mono ?_
      rintro e w10 ⟨rfl, hb10⟩
      have HB10 := z_ (below_step HB9.out hb10)
      clear hb10
      go_wp2_with fail
      refine (hashA_calls (HM8.out.1.below HB10.out) root (fun n hn => (HTO.out.g.ok.at root n hn).1.2.2.2) (HGW.out _ (HM8.out.2.2.2.2.2.trans (HB10.out.mono (by have := (blkA HM8.out.1).lt; omega))))).mono ?_
      rintro e w11 ⟨⟨vK, rfl, hH⟩, hb11⟩
      rw [show hashAt 8 cs' root = hs from by rw [HHS.out]; unfold hashAt; rw [HND.out]] at hH
      obtain ⟨AK, cK, rfl, hcK, hFK⟩ := hH
      have HK2 := z_ (And.intro hcK (Kd.F_now hFK))
      have HB11 := z_ (below_step HB10.out hb11)
      clear hb11 hcK hFK
      have HH8 := z_ (show BX w8 (fun k => w3.heap.size <= k /\ k < w4.heap.size) (.slice AH hs.length cH) hs from
        Kd.V_step (Kd.V_below (Kd.V_bound HH.out) (below_step HB5.out HB6.out)) (fun k hk hl => HSM.out k (.inr (by have := HB3.out.size; omega)) hl))
      go_wp2_with fail
      refine (bytes_Equal.calls AK cK hs AH cH hs true w11 HK2.out.2 HK2.out.1 (Kd.V_reads' (Kd.V_below HH8.out HB11.out)).2.2 (Kd.V_reads' HH8.out).2.1 (equal_same hs)).mono ?_
      rintro e w12 ⟨rfl, hd12⟩
      have HB12 := z_ (below_step HB11.out hd12.below)
      clear hd12
      obtain ⟨k0, k1, k2⟩ := (show ItB' w12 g3 [.slice B1 id'.length d1, .slice B2 key'.length d2, .int .i64 since] from blk_below HG8.out HB12.out).cells
      go_wp2_with fail
      have hId : ∀ {A : Option Addr} {c : Nat} {l : List Int}, l.length <= c -> Kd.F (Kd.int .u8) w6 (fun k => (((k < w.heap.size \/ w4.heap.size <= k) \/ w5.heap.size <= k) /\ k < w6.heap.size) /\ k ≠ gf) A l.length l -> BX w8 (fun k => (k < w.heap.size \/ w4.heap.size <= k) /\ k < w6.heap.size) (.slice A l.length c) l := fun hc hf =>
        Kd.V_step (show BX w6 _ _ _ from ⟨_, _, rfl, hc, Kd.F_mono hf (fun k hk => (⟨hk.1.1.elim (fun h => h) (fun h => .inr (by have := HB5.out.size; omega)), hk.1.2⟩ : (k < w.heap.size \/ w4.heap.size <= k) /\ k < w6.heap.size))⟩) (fun k hk _ => HSM.out k (by
          have h1 := HE.out
          have h2 := HBA.out.size
          have h3 := HB2.out.size
          have h6 := (below_step HB3.out HB4.out).size
          rcases hk.1 with h | h
          · exact .inl (HM.out.2.1 k (HFX.out k ⟨.inl h, by omega⟩))
          · exact .inr (by omega)) hk.2)
      have HID := z_ (And.intro (hId HFI.out.1 HFI.out.2.1) (hId HFI.out.2.2.1 HFI.out.2.2.2))
      clear hId k0 k1 k2
      refine (get_calls (HM8.out.1.below HB12.out) i (some t') HT8.out.1 B1 d1 id' (Kd.V_reads' (Kd.V_below HID.out.1 HB12.out)).2.2 (Kd.V_reads' HID.out.1).2.1 HIO.out.1).mono ?_
      rintro e w13 ⟨hI, hb13⟩
      have hit : (findO (keyB id') id' i (some t')).item = ⟨id', key', 5, true⟩ := by
        obtain ⟨A, S, B, N, e1, e2, e3, e4⟩ := HT8.out.2.2.2
        have hx : (⟨id', key', 5⟩ : Lf) ∈ N := by
          rcases e4 with ⟨_, rfl⟩ | ⟨_, rfl | rfl⟩ <;> simp
        have hu : ∀ y ∈ N, y.id = id' -> y = ⟨id', key', 5⟩ := fun y hy hi => by
          rcases e4 with ⟨_, rfl⟩ | ⟨h, rfl | rfl⟩
          · simpa using hy
          · rcases List.mem_cons.1 hy with h1 | h1
            · exact h1
            · exact absurd hi (h y h1)
          · rcases List.mem_append.1 hy with h1 | h1
            · exact absurd hi (h y h1)
            · simpa using h1
        exact find_leaf (x := ⟨id', key', 5⟩) HT8.out.1.at_ HT8.out.1.good (by rw [e2]; simp [hx]) (fun y hy hi => by
          rw [e2] at hy
          rcases List.mem_append.1 hy with h | h
          · rcases List.mem_append.1 h with h | h
            · exact absurd hi (e3 y (List.mem_append_left _ h))
            · exact hu y h hi
          · exact absurd hi (e3 y (List.mem_append_right _ h)))
      rw [hit] at hI
      clear hit
      obtain ⟨D1, D2, q1, q2, rfl, y1, y2⟩ := hI
      have HB13 := z_ (below_step HB12.out hb13)
      have HY2 := z_ (show BX w13 (fun k => X8 k \/ w12.heap.size <= k) (.slice D2 key'.length q2) key' from y2)
      clear hb13 y1 y2
      obtain ⟨w14, hw14⟩ : ∃ w14, w14 = w13.alloc (.cells #[.slice D1 id'.length q1, .slice D2 key'.length q2, .int .i64 5] 51) := ⟨_, rfl⟩
      have HB14 := z_ (show Below w13.heap.size w13 w14 from by rw [hw14]; exact below_alloc (Below.refl _ _) _)
      have hg14 := blk_below HG8.out (below_step HB13.out HB14.out)
      rw [hw14] at hg14
      obtain ⟨k0, k1, k2⟩ := (show ItB' _ g3 [.slice B1 id'.length d1, .slice B2 key'.length d2, .int .i64 since] from hg14).cells
      clear hg14
      go_wp2_with fail
      rw [<- hw14]
      have HN14 := z_ (show ItB w14 w13.heap.size [.slice D1 id'.length q1, .slice D2 key'.length q2, .int .i64 5] from by rw [hw14]; exact heap_alloc_new w13 _)
      clear hw14 k0 k1 k2
      have HB814 := z_ (below_step HB13.out HB14.out)
      refine (bytes_Equal.calls D2 q2 key' B2 d2 key' true w14 (Kd.V_reads' (Kd.V_below HY2.out HB14.out)).2.2 (Kd.V_reads' HY2.out).2.1 (Kd.V_reads' (Kd.V_below HID.out.2 HB814.out)).2.2 (Kd.V_reads' HID.out.2).2.1 (equal_same key')).mono ?_
      rintro e w15 ⟨rfl, hd15⟩
      have HB15 := z_ (below_step HB814.out hd15.below)
      have HN15 := z_ (HN14.out.below hd15.below)
      clear hd15
      obtain ⟨m0, m1, m2⟩ := HN15.out.cells
      go_wp2_with fail
      clear m0 m1 m2
      refine (items_calls (HM8.out.1.below HB15.out) i (some t') HT8.out.1 (by have h1 : t'.leaves.length <= (leavesO t).length + 1 := HT8.out.2.2.1; have := HLL.out; show t'.leaves.length <= 1000000; omega)).mono ?_
      rintro e w16 ⟨vN, rfl, hN16, hb16⟩
      obtain ⟨tl, htl⟩ : ∃ x, x = (leavesO (some t')).map sOf := ⟨_, rfl⟩
      rw [<- htl] at hN16
      obtain ⟨AN, cN, rfl⟩ := Kd.N_slice hN16
      have HTL := z_ htl
      have HN16 := z_ hN16
      have HB16 := z_ (below_step HB15.out hb16)
      have HSN := z_ (show ∀ k, some k = (Value.slice AN tl.length cN).ownBlock -> w15.heap.size <= k from fun k hk => Kd.N_base hN16 k hk.symm)
      have HZ16 := z_ (show w15.heap.size <= w16.heap.size from hb16.size)
      clear htl hN16 hb16
      have HOT := z_ (show ∀ x ∈ tl, BytesOk x.f0 from fun x hx => by
        rw [HTL.out] at hx
        obtain ⟨y, hy, rfl⟩ := List.mem_map.1 hx
        exact (Good.leaf_ok HT8.out.1.good y hy).1.1)
      have HOS := z_ (show ∀ x ∈ sl, BytesOk x.f0 from fun x hx => by
        rw [HSL.out] at hx
        obtain ⟨y, hy, rfl⟩ := List.mem_map.1 hx
        cases t with
        | none => cases hy
        | some t => exact (Good.leaf_ok HT.out.1.good y hy).1.1)
      have hzz : w6.heap.size <= w15.heap.size /\ w3.heap.size <= w4.heap.size /\ w4.heap.size <= w6.heap.size /\ g3 < wr.heap.size /\ wr.heap.size <= w3.heap.size /\ w.heap.size < wr.heap.size := by
        have a1 := HF7.out.2
        have a2 := HM8.out.2.2.2.2.1.1
        have a3 := HB15.out.size
        have a4 := HB4.out.size
        have a5 := (below_step HB5.out HB6.out).size
        have a6 := blk_lt HG.out
        have a7 := HB2.out.size
        have a8 := HKT.out.1.1
        have a9 := HE.out
        have a10 := HB3.out.size
        omega
      have HZZ := z_ hzz
      clear hzz
      go_wp2_with fail
      refine (delete_items HN16.out HOT.out (show PidAt w16 g3 (fun k => ¬ some k = (Value.slice AN tl.length cN).ownBlock) id' from ⟨⟨B1, d1, _, _, blk_below HG8.out HB16.out, Kd.V_mono (Kd.V_below HID.out.1 HB16.out) (fun k hk he => by have := HSN.out k he; have := HZZ.out; omega)⟩, HIO.out.1⟩) (fun he => by have := HSN.out g3 he; have := HZZ.out; omega) HZ16.out).mono ?_
      rintro e w17 ⟨rfl, hN17, hk17, hb17⟩
      have HN17 := z_ hN17
      have HK17 := z_ (And.intro hk17 hb17)
      clear hN17 hk17 hb17
      have HI17 := z_ (Kd.N_kept (Kd.N_below HNI8.out HB16.out) HK17.out.1 (fun k hk he => by have := HSN.out k he; have := HZZ.out; omega))
      have HG17 := z_ ((HK17.out.1.2 g3 (blk_lt (blk_below HG8.out HB16.out)) (fun he => by have := HSN.out g3 he; have := HZZ.out; omega)).trans (blk_below HG8.out HB16.out))
      have HID17 := z_ (Kd.V_step (Kd.V_below HID.out.1 HB16.out) (w1 := w17) (fun k hk hl => HK17.out.1.2 k hl (fun he => by have := HSN.out k he; have := HZZ.out; omega)))
      go_wp2_with fail
      refine (delete_items HI17.out HOS.out (show PidAt w17 g3 (fun k => ¬ some k = (Value.slice AI sl.length cI).ownBlock) id' from ⟨⟨B1, d1, _, _, HG17.out, Kd.V_mono HID17.out (fun k hk he => by have := HSI.out k he; have := HZZ.out; omega)⟩, HIO.out.1⟩) (fun he => by have := HSI.out g3 he; have := HZZ.out; omega) (by have := HK17.out.1.1; have := HZ16.out; have := HZZ.out; omega)).mono ?_
      rintro e w18 ⟨rfl, hN18, hk18, hb18⟩
      have HN18 := z_ hN18
      have HK18 := z_ (And.intro hk18 hb18)
      clear hN18 hk18 hb18
      have HT18 := z_ (Kd.N_kept HN17.out HK18.out.1 (fun k hk he => by
        have h1 := HSI.out k he
        have h2 := HZZ.out
        rcases hk with hk | hk
        · rcases HM8.out.2.2.1 k hk with h | h
          · exact HAI.out k h he
          · have := HF7.out.2
            omega
        · omega))
      have heq : tl.filter (keepP id') = sl.filter (keepP id') := by
        obtain ⟨A, S, B, N, e1, e2, e3, e4⟩ := HT8.out.2.2.2
        rw [HTL.out, HSL.out, show leavesO (some t') = t'.leaves from rfl, e1, e2]
        exact keep_ins e3 e4
      have hfl : (sl.filter (keepP id')).length <= 30 := Nat.le_trans (List.length_filter_le _ _) HSLL.out
      have HEQ := z_ (And.intro heq hfl)
      clear heq hfl
      go_wp2_with fail
      refine (annalsref10_SameItems.calls ((sl.filter (keepP id')).length + 1) AN cN (tl.filter (keepP id')) AI cI (sl.filter (keepP id')) true w18 (Kd.N_reads' HT18.out).2.2 (Kd.N_reads' HT18.out).2.1 (Kd.N_reads' HN18.out).2.2 (Kd.N_reads' HN18.out).2.1 (by rw [HEQ.out.1]; exact same_f _ (by have := HEQ.out.2; omega))).mono ?_
      rintro e w19 ⟨rfl, hb19⟩
      have HW19 := z_ (show Below w.heap.size w w19 from by
        have z := HZZ.out
        have z2 := HE.out
        have z3 := HBA.out.size
        have z4 := HZ16.out
        have z5 := HK17.out.1.1
        have z6 := HK18.out.1.1
        have z7 := HM8.out.2.2.2.2.1.1
        have z8 := HF7.out.2
        have z9 := HB15.out.size
        refine HBW7.out.trans ((HM8.out.2.2.2.2.2.mono (by omega)).trans ((HB16.out.mono (by omega)).trans ((HK17.out.2.mono (by omega)).trans ((HK18.out.2.mono (by omega)).trans (hb19.mono (by omega)))))))
      clear hb19
      go_wp2_with fail
      refine (awake10_calls w19 (GlobS.of HGS.out HW19.out)).mono ?_
      rintro e w20 ⟨rfl, hb20⟩
      have HW20 := z_ (HW19.out.trans (hb20.mono HW19.out.size))
      clear hb20
      go_wp2_with fail
      go_ret
      exact ⟨rfl, HW20.out⟩
end Go.Proofs.YtdeneoknjeegbaaDoor.P
end
section
namespace Go.Proofs.YtdeneoknjeegbaaDoor.P
open Go.RowKit YtdeneoknjeegbaaDoorW.PrintWords YtdeneoknjeegbaaDoorW.PrintLast YtdeneoknjeegbaaDoorW.PrintMore
theorem list_of {α : Type} (n : Nat) (R : Nat -> α -> Prop) (h : ∀ i, i < n -> ∃ a, R i a) : ∃ xs : List α, xs.length = n /\ ∀ i a, xs[i]? = some a -> R i a := by
  induction n with
  | zero => exact ⟨[], rfl, fun i a hi => by simp at hi⟩
  | succ n ih =>
    obtain ⟨xs, hl, hx⟩ := ih (fun i hi => h i (by omega))
    obtain ⟨a, ha⟩ := h n (by omega)
    refine ⟨xs ++ [a], by simp [hl], fun i b hb => ?_⟩
    by_cases hi : i < n
    · rw [List.getElem?_append_left (by omega)] at hb
      exact hx i b hb
    · rw [List.getElem?_append_right (by omega)] at hb
      have h0 : i - xs.length = 0 := by
        have := (List.getElem?_eq_some_iff.1 hb).1
        simp at this
        omega
      rw [h0] at hb
      have hin : i = n := by omega
      subst hin
      have : a = b := by simpa using hb
      subst this
      exact ha
theorem weightsAll_mem {H : Type} {P : Program} {e : TypeId} {l : List (DataW H)} {d : DataW H} (hd : d ∈ l) {n : Nat} (hn : n ∈ d.weights P e) : n ∈ DataW.weightsAll P e l := by
  induction l with
  | nil => simp at hd
  | cons a l ih =>
    simp only [DataW.weightsAll, List.mem_append]
    rcases List.mem_cons.1 hd with rfl | hd
    · exact .inl hn
    · exact .inr (ih hd)
structure Opens (P : Program) (t : Nat) {α : Type} (d : Kd α) (wf : α -> Prop) : Prop where
  size : P.cellsOf t = d.sz
  get : ∀ {H : Type} {enc : TypeId × Value -> H} {w : World} {base : Nat} {spare : Nat -> Bool} {held : Bool} {fuel : Nat} {cs : List Value} {x : DataW H × List MemPlace},
    DataW.trod enc P w base spare held fuel t cs = some x -> (∀ n ∈ x.1.weights P t, n <= reachBytes) -> ∃ a, d.K w a cs /\ wf a
theorem Opens.imp {P : Program} {t : Nat} {α : Type} {d : Kd α} {wf wf' : α -> Prop} (h : Opens P t d wf) (hi : ∀ a, wf a -> wf' a) : Opens P t d wf' :=
  ⟨h.size, fun h1 h2 => by
    obtain ⟨a, h3, h4⟩ := h.get h1 h2
    exact ⟨a, h3, hi a h4⟩⟩
theorem Opens.int {P : Program} {t : Nat} {k : IntKind} (hu : P.underlying t = some (.int k)) (hc : P.cellsOf t = 1) : Opens P t (Kd.int k) (fun n => (Lit.int k n).wf = true) :=
  ⟨hc, fun h _ => by
    obtain ⟨n, rfl, _, hw⟩ := DataW.trod_int hu h
    exact ⟨n, rfl, hw⟩⟩
theorem Opens.bool {P : Program} {t : Nat} (hu : P.underlying t = some .bool) (hc : P.cellsOf t = 1) : Opens P t Kd.bool (fun _ => True) :=
  ⟨hc, fun h _ => by
    obtain ⟨n, rfl, _⟩ := DataW.trod_bool hu h
    exact ⟨n, rfl, trivial⟩⟩
theorem Opens.slice {P : Program} {t e : Nat} {α : Type} {d : Kd α} {wf : α -> Prop} (hu : P.underlying t = some (.slice e)) (hc : P.cellsOf t = 1) (he : Opens P e d wf) :
    Opens P t (Kd.slice e d) (fun xs => xs.length * P.bytesOf e <= reachBytes /\ ∀ a, a ∈ xs -> wf a) := by
  refine ⟨hc, fun {H enc w base spare held fuel cs x} h hw => ?_⟩
  rcases DataW.trod_slice hu h with ⟨rfl, rfl⟩ | ⟨ad, len, cap, elems, rest, n, _, rfl, rfl, hb, hl, hm, hlen, hel, hsp, hns⟩
  · exact ⟨[], ⟨none, 0, rfl, Nat.le_refl _, Kd.C_nil d w⟩, by simp, by simp⟩
  · have hwa : ∀ d0 ∈ elems.map (·.1), ∀ m ∈ DataW.weights P e d0, m <= reachBytes := fun d0 hd0 m hm0 => hw m (by
      simp only [DataW.weights, hu, List.mem_cons, List.mem_append]
      exact .inr (.inl (weightsAll_mem hd0 hm0)))
    have hsz : (elems.length + rest.length) * P.bytesOf e <= reachBytes := hw _ (by simp [DataW.weights, hu])
    obtain ⟨xs, hxl, hx⟩ := list_of len (fun i a => wf a /\ ∃ c, c.length = d.sz /\ d.K w a c /\ ∀ j u, c[j]? = some u -> w.cell? (ad.add (i * d.sz + j)) = some u) (fun i hi => by
      have h1 := hel i hi
      have hi' : i < elems.length := by omega
      rw [List.getElem?_eq_getElem hi', Option.bind_eq_some_iff] at h1
      obtain ⟨c, hc1, hc2⟩ := h1
      obtain ⟨_, hlc, hcell⟩ := World.cells?_some hc1
      obtain ⟨a, hK, hwf⟩ := he.get hc2 (fun m hm0 => hwa _ (List.mem_map.2 ⟨_, List.getElem_mem hi', rfl⟩) m hm0)
      refine ⟨a, hwf, c, d.K_len hK, hK, fun j u hj => ?_⟩
      have hj' : j < c.length := (List.getElem?_eq_some_iff.1 hj).1
      have h2 := hcell j (by omega)
      rw [hj] at h2
      rw [<- h2, he.size]
      congr 1
      unfold Addr.add
      by_cases h3 : i * d.sz = 0 <;> by_cases h4 : j = 0 <;> simp [h3, h4, Nat.add_assoc])
    refine ⟨xs, ⟨some ad, cap, by rw [hxl], by omega, ⟨rfl, by unfold maxLen at hm; omega, fun _ => ⟨ad, rfl, fun j p hj => ?_⟩⟩⟩, ?_, fun a ha => ?_⟩
    · obtain ⟨_, c, h1, h2, h3⟩ := hx j p hj
      exact ⟨c, h1, h2, h3⟩
    · rw [hxl]
      refine Nat.le_trans (Nat.mul_le_mul_right _ ?_) hsz
      omega
    · obtain ⟨i, hi⟩ := List.getElem?_of_mem ha
      exact (hx i a hi).1
structure OpensF (P : Program) (fs : List Field) (off : Nat) {α : Type} (d : Kd α) (wf : α -> Prop) : Prop where
  get : ∀ {H : Type} {enc : TypeId × Value -> H} {w : World} {base : Nat} {spare : Nat -> Bool} {held : Bool} {fuel : Nat} {cs : List Value} {xs : List (DataW H × List MemPlace)},
    cs.length = off + d.sz -> xs.length = fs.length -> (∀ (i : Nat) (f : Field), fs[i]? = some f -> DataW.trod enc P w base spare held fuel f.type ((cs.drop f.offset).take (P.cellsOf f.type)) = xs[i]?) ->
    (∀ n ∈ DataW.weightsEach P (fs.map (·.type)) (xs.map (·.1)), n <= reachBytes) -> ∃ a, d.K w a (cs.drop off) /\ wf a
theorem OpensF.one {P : Program} {f : Field} {α : Type} {d : Kd α} {wf : α -> Prop} {t off : Nat} (ht : f.type = t) (ho : f.offset = off) (h : Opens P t d wf) : OpensF P [f] off d wf := by
  subst ht
  subst ho
  refine ⟨fun {H enc w base spare held fuel cs xs} hl hxl hx hw => ?_⟩
  match xs, hxl with
  | [x], _ =>
    have h1 := hx 0 f rfl
    rw [List.take_of_length_le (by rw [List.length_drop, h.size]; omega)] at h1
    exact h.get h1 (fun n hn => hw n (by simp only [List.map_cons, List.map_nil, DataW.weightsEach, List.mem_append]; exact .inl hn))
theorem OpensF.cons {P : Program} {f : Field} {fs : List Field} {α β : Type} {d : Kd α} {d' : Kd β} {wf : α -> Prop} {wf' : β -> Prop} {t off off' : Nat} (ht : f.type = t) (ho : f.offset = off) (h : Opens P t d wf)
    (ho' : off + d.sz = off') (hr : OpensF P fs off' d' wf') : OpensF P (f :: fs) off (Kd.pair d d') (fun x => wf x.1 /\ wf' x.2) := by
  subst ht
  subst ho
  subst ho'
  refine ⟨fun {H enc w base spare held fuel cs xs} hl hxl hx hw => ?_⟩
  match xs, hxl with
  | x :: xs, hxl =>
    have hl' : cs.length = f.offset + (d.sz + d'.sz) := hl
    have h1 := hx 0 f rfl
    obtain ⟨a, ha, hwa⟩ := h.get h1 (fun n hn => hw n (by simp only [List.map_cons, DataW.weightsEach, List.mem_append]; exact .inl hn))
    obtain ⟨b, hb, hwb⟩ := hr.get (by rw [hl']; omega) (by simpa using hxl) (fun i g hg => by simpa using hx (i + 1) g (by simpa using hg)) (fun n hn => hw n (by simp only [List.map_cons, DataW.weightsEach, List.mem_append]; exact .inr hn))
    refine ⟨(a, b), ⟨_, _, ?_, ha, hb⟩, hwa, hwb⟩
    rw [h.size]
    have := List.take_append_drop d.sz (cs.drop f.offset)
    rw [List.drop_drop] at this
    exact this.symm
theorem Opens.struct {P : Program} {t : Nat} {fs : Array Field} {α : Type} {d : Kd α} {wf : α -> Prop} (hu : P.underlying t = some (.struct fs)) (hc : P.cellsOf t = d.sz) (h : OpensF P fs.toList 0 d wf) : Opens P t d wf := by
  refine ⟨hc, fun {H enc w base spare held fuel cs x} h1 hw => ?_⟩
  obtain ⟨xs, n, _, rfl, hl, hxl, hx⟩ := DataW.trod_struct hu h1
  have := h.get (cs := cs) (by rw [hl, hc]; omega) (by simpa using hxl) (fun i f hf => hx i f (by simpa using hf)) (fun n hn => hw n (by simp only [DataW.weights, hu]; exact hn))
  simpa using this
theorem Opens.iso {P : Program} {t : Nat} {α β : Type} {d : Kd α} {wf : α -> Prop} (h : Opens P t d wf) (f : β -> α) (g : α -> β) (hfg : ∀ a, f (g a) = a) : Opens P t (Kd.iso d f) (fun b => wf (f b)) :=
  ⟨h.size, fun h1 hw => by
    obtain ⟨a, ha, hwa⟩ := h.get h1 hw
    exact ⟨g a, by show d.K _ (f (g a)) _; rw [hfg]; exact ha, by show wf (f (g a)); rw [hfg]; exact hwa⟩⟩
theorem Opens.param {P : Program} {t e : Nat} {α : Type} {d : Kd α} {wf : List α -> Prop} (ho : Opens P t (Kd.slice e d) wf) {H : Type} {enc : TypeId × Value -> H} {w : World} {base : Nat} {spare : Nat -> Bool} {held : Bool} {fuel : Nat}
    {A : Option Addr} {len cap : Nat} {x : DataW H × List MemPlace} (h : DataW.trod enc P w base spare held fuel t [.slice A len cap] = some x) (hw : ∀ n ∈ x.1.weights P t, n <= reachBytes) :
    ∃ xs : List α, len = xs.length /\ xs.length <= cap /\ d.C w A xs.length xs /\ wf xs := by
  obtain ⟨xs, ⟨A', c, he, hl, hC⟩, hwf⟩ := ho.get h hw
  injection he with he _
  injection he with h1 h2 h3
  subst h1
  subst h3
  exact ⟨xs, h2, hl, hC, hwf⟩
end Go.Proofs.YtdeneoknjeegbaaDoor.P
end
section
namespace Go.Proofs.YtdeneoknjeegbaaDoor.P
open Go.RowKit Go.ChangeShapes Go.WideShapes YtdeneoknjeegbaaDoorW.PrintWords YtdeneoknjeegbaaDoorW.PrintLast YtdeneoknjeegbaaDoorW.PrintMore
theorem opensByte : Opens Tryd.prog 5 (Kd.int .u8) (fun n => (Lit.int .u8 n).wf = true) := Opens.int Tryd.underlying5 (by kernel_rfl)
theorem opensInt : Opens Tryd.prog 3 (Kd.int .i64) (fun n => (Lit.int .i64 n).wf = true) := Opens.int Tryd.underlying3 (by kernel_rfl)
theorem opensBytes : Opens Tryd.prog 31 (Kd.slice 5 (Kd.int .u8)) (fun xs => xs.length * Tryd.prog.bytesOf 5 <= reachBytes /\ ∀ a, a ∈ xs -> (Lit.int .u8 a).wf = true) := Opens.slice Tryd.underlying31 (by kernel_rfl) opensByte
theorem wfB {l : List Int} (h : ∀ x ∈ l, (Lit.int .u8 x).wf = true) : BytesOk l := by
  intro x hx
  have := h x hx
  simp only [Lit.wf, IntKind.min, IntKind.max, IntKind.signed, IntKind.bits, Bool.and_eq_true, decide_eq_true_eq] at this
  simp at this
  omega
theorem each_mem {H : Type} {P : Program} : ∀ {ts : List TypeId} {ds : List (DataW H)} (h : (DataW.weightsEach P ts ds).all (· <= reachBytes) = true) (j : Nat) (t : TypeId) (d : DataW H), ts[j]? = some t -> ds[j]? = some d -> ∀ n ∈ d.weights P t, n <= reachBytes
  | [], _, _, j, t, d, ht, _ => by simp at ht
  | t0 :: ts, [], _, j, t, d, _, hd => by simp at hd
  | t0 :: ts, d0 :: ds, h, j, t, d, ht, hd => by
    simp only [DataW.weightsEach, List.all_append, Bool.and_eq_true] at h
    cases j with
    | zero =>
      obtain rfl := Option.some.inj ht
      obtain rfl := Option.some.inj hd
      intro n hn
      have := List.all_eq_true.1 h.1 n hn
      simpa using this
    | succ j => exact each_mem h.2 j t d (by simpa using ht) (by simpa using hd)
end Go.Proofs.YtdeneoknjeegbaaDoor.P
end
