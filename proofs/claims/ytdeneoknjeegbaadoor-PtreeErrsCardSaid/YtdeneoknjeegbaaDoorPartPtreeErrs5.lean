/- Lemmas of this claim, part 5. -/
import Derived.Test.YtdeneoknjeegbaaDoorPartPtreeErrs1
import Derived.Test.YtdeneoknjeegbaaDoorPartPtreeErrs4
import Derived.Test.YtdeneoknjeegbaaDoorPartPtreeErrs3
import Derived.Lib.SlBytesConst
import Derived.Test.YtdeneoknjeegbaaDoorPartPtreeErrs2
set_option linter.unusedVariables false
set_option linter.unusedSimpArgs false
section
namespace Go.Proofs.YtdeneoknjeegbaaDoor.P
open Go.RowKit YtdeneoknjeegbaaDoorW.PrintWords YtdeneoknjeegbaaDoorW.PrintLast YtdeneoknjeegbaaDoorW.PrintMore
attribute [local go_sem] max2_int min2_int max_two min_two max_three min_three max_four min_four
def annalsref01_Cut.f (a0 : Int) (l1 : List Int) : Option (List Int) := (annalsref01_Sum.f l1).bind fun t172 => (if 0 <= (mx 0 (mn a0 32)) then (if (mx 0 (mn a0 32)) <= (t172.length : Int) then (some (t172.take ((mx 0 (mn a0 32)) : Int).toNat)) else (none)) else (none))
set_option maxHeartbeats 8000000 in
set_option maxRecDepth 100000 in
theorem annalsref01_Cut.calls (a0 : Int) (A1 : Option Addr) (c1 : Nat) (l1 : List Int) (r : List Int) (w : World) (hr1 : Kd.C (Kd.int .u8) w A1 l1.length l1) (hc1 : l1.length <= c1) (h : annalsref01_Cut.f a0 l1 = some r) :
    Calls Tryd.prog 98 #[.int .i64 a0, .slice A1 l1.length c1] w fun e w' => ∃ v0_ : Value, e = .returned (v0_) /\ Kd.R (Kd.int .u8) 5 w' w.heap.size (fun _ => True) v0_ r /\ Below w.heap.size w w' := by
  have HR1 := z_ hr1
  have HC1 := z_ hc1
  clear hr1 hc1
  have HB := z_ (Below.refl w.heap.size w)
  have H : ((annalsref01_Sum.f l1).bind fun t172 => (if 0 <= (mx 0 (mn a0 32)) then (if (mx 0 (mn a0 32)) <= (t172.length : Int) then (some (t172.take ((mx 0 (mn a0 32)) : Int).toNat)) else (none)) else (none))) = some r := h
  clear h
  replace H := Option.bind_eq_some_iff.mp H
  obtain ⟨t172, A30, H⟩ := H
  replace H : (if 0 <= (mx 0 (mn a0 32)) then (if (mx 0 (mn a0 32)) <= (t172.length : Int) then (some (t172.take ((mx 0 (mn a0 32)) : Int).toNat)) else (none)) else (none)) = some r := H
  have A3 := z_ A30
  clear A30
  obtain ⟨ji4, hji4⟩ : ∃ j_ : Int, (mn a0 32) = j_ := ⟨_, rfl⟩
  replace H : (if 0 <= (mx 0 (ji4)) then (if (mx 0 (ji4)) <= (t172.length : Int) then (some (t172.take ((mx 0 (ji4)) : Int).toNat)) else (none)) else (none)) = some r := by first | (rw [hji4] at H; exact H) | (simp only [hji4] at H ⊢; exact H)
  (try rw [hji4] at A3)
  (try (have hji4h : ji4 <= 32 := by (rw [<- hji4]; unfold mn; (repeat' split) <;> omega)))
  (try (have hji4g : ji4 <= 64 := by omega))
  have hji4_ : (if 32 < a0 then 32 else a0) = ji4 := hji4
  obtain ⟨ji5, hji5⟩ : ∃ j_ : Int, (mx 0 (ji4)) = j_ := ⟨_, rfl⟩
  replace H : (if 0 <= (ji5) then (if (ji5) <= (t172.length : Int) then (some (t172.take ((ji5) : Int).toNat)) else (none)) else (none)) = some r := by first | (rw [hji5] at H; exact H) | (simp only [hji5] at H ⊢; exact H)
  (try rw [hji5] at A3)
  have hji5_ : (if 0 < (ji4) then (ji4) else 0) = ji5 := hji5
  by_cases c6 : 0 <= (ji5)
  · rw [if_pos c6] at H
    have c6b0 := eq_true c6
    have c6b1 : decide (0 <= (ji5)) = true := decide_eq_true c6
    clear c6
    by_cases c7 : (ji5) <= (t172.length : Int)
    · rw [if_pos c7] at H
      have c7b0 := eq_true c7
      have c7b1 : decide ((ji5) <= (t172.length : Int)) = true := decide_eq_true c7
      clear c7
      obtain ⟨y175, hy175⟩ : ∃ y_ : List Int, y_ = (t172.take ((ji5) : Int).toNat) := ⟨_, rfl⟩
      replace H : (some y175) = some r := by first | (rw [hy175]; with_reducible exact H) | (have H2_ := (Option.bind_some _ _).symm.trans H; rw [hy175]; with_reducible exact H2_) | (have H2_ := (Option.bind_some _ _).symm.trans H; with_reducible exact H2_) | with_reducible exact H | (rw [hy175]; exact H) | exact H
      have Ny175 := z_ hy175
      clear hy175
      obtain rfl := Option.some.inj H
      go_enter Tryd.func98, Tryd.ntmps98
      go_wp2_with (first | ((with_reducible refine gate_callee (f := 105) rfl ?_); refine goesL_ (some 6) rfl rfl Tryd.func105 (by kernel_rfl) rfl #[.slice A1 l1.length c1] rfl (by (try simp only [List.map_toArray, List.map_cons, List.map_nil]); first | done | rfl | (simp only [List.length_drop, List.length_take]; rfl)) ?_; (with_reducible refine (annalsref01_Sum.calls _ _ l1 t172 _ ?side1 ?side2 A3.out).mono ?_); (case side1 => repeat (first | exact HR1.out | (with_reducible refine Kd.C_alloc ?_ _) | (with_reducible refine Kd.C_drewN ?_ _) | (with_reducible refine Kd.C_drew ?_))); (case side2 => exact HC1.out); rintro e w8 ⟨v173, rfl, ho0, hb⟩; refine ⟨_, rfl, ?_⟩; have n0_ := z_ (Kd.R_lower ho0 (below_size (by repeat (first | (with_reducible first | exact HB.out | apply below_alloc | apply pw_below_drewN | apply below_drew1) | exact HB.out)))); have n1_ := z_ (below_step (by repeat (first | (with_reducible first | exact HB.out | apply below_alloc | apply pw_below_drewN | apply below_drew1) | exact HB.out)) hb); clear HB; have HO174 := n0_; have HB := n1_; clear n0_ n1_; (try clear hb); (try clear hb2); (try clear hk); (try clear hi); (try clear ho0); obtain ⟨Ao9, co9, eo9⟩ := Kd.R_slice HO174.out; subst eo9; have q10 : ((ji5) : Int) <= ((t172.length : Int) : Int) := of_decide_eq_true (by first | (with_reducible assumption) | assumption); obtain ⟨i010, hi010, _, hsz10, _⟩ := info_parts info5; have hcut10 := cut_to (P := Tryd.prog) 31 5 .i64 Tryd.underlying31 hi010 Ao9 t172.length co9 (ji5) (of_decide_eq_true (by first | (with_reducible assumption) | assumption)) q10 (Kd.R_reads' HO174.out).2.1; have hr10 := Kd.R_take (m := ((ji5) : Int).toNat) HO174.out (by omega); have hy10 : y175.length = ((ji5) : Int).toNat := (by rw [Ny175.out, List.length_take]; omega); rw [<- Ny175.out] at hr10; rw [<- hy10] at hr10 hcut10; clear hy10 hi010 hsz10 HO174; have HO177 := z_ hr10; clear hr10; replace q10 := eq_true q10))
      go_ret
      exact ⟨_, by first | rfl | (simp [errW_none, errW_some] <;> rfl) | (simp only [<- hji4, <- hji5]; first | rfl | (simp [errW_none, errW_some] <;> rfl)) | (simp [*, errW_none, errW_some] <;> rfl), by (with_reducible repeat (first | apply Kd.R_alloc | apply Kd.R_drewN | apply Kd.R_drew)); exact HO177.out, by repeat (first | (with_reducible first | exact HB.out | apply below_alloc | apply pw_below_drewN | apply below_drew1) | exact HB.out)⟩
    · rw [if_neg c7] at H
      exact absurd H (by simp)
  · rw [if_neg c6] at H
    exact absurd H (by simp)
mutual
def annalsref02_Text.j0 : Nat -> Int -> List (List Int) -> Bool -> Option (List Int × Int)
  | 0, _, _, _ => none
  | k + 1, x0, x1, x14 => if x14 = true then (some (([] : List Int), 1)) else (annalsref02_Text.l0 k (([(x0) % 256] : List Int)) x1 (x1.length : Int) 0)
def annalsref02_Text.l0 : Nat -> List Int -> List (List Int) -> Int -> Int -> Option (List Int × Int)
  | 0, _, _, _, _ => none
  | k + 1, x6, x18, x19, x20 => if x20 < x19 then (if 0 <= x20 then (if x20 < (x18.length : Int) then (if ((rd_L1 x18 x20).length : Int) > 65535 then (some (([] : List Int), 4)) else ((some (([(((rd_L1 x18 x20).length : Int) / 256) % 256, (((rd_L1 x18 x20).length : Int)) % 256] : List Int) : List Int)).bind fun y159 => (if x6.length + y159.length < 140737488355328 then ((some (x6 ++ y159 : List Int)).bind fun y162 => (if y162.length + (rd_L1 x18 x20).length < 140737488355328 then (annalsref02_Text.l0 k (y162 ++ (rd_L1 x18 x20)) x18 x19 (wrap64 (x20 + 1))) else (none))) else (none)))) else (none)) else (none)) else (some (x6, 0))
end
def annalsref02_Text.f (k : Nat) (a0 : Int) (l1 : List (List Int)) : Option (List Int × Int) := if a0 < 0 then (annalsref02_Text.j0 k a0 l1 true) else (annalsref02_Text.j0 k a0 l1 (decide (a0 > 255)))
theorem annalsref02_Text.mono_l : ∀ k, (∀ y0 y1 y2, LeO (annalsref02_Text.j0 k y0 y1 y2) (annalsref02_Text.j0 (k + 1) y0 y1 y2)) /\ (∀ y0 y1 y2 y3, LeO (annalsref02_Text.l0 k y0 y1 y2 y3) (annalsref02_Text.l0 (k + 1) y0 y1 y2 y3))
  | 0 => ⟨fun _ _ _ r h => by simp [annalsref02_Text.j0] at h, fun _ _ _ _ r h => by simp [annalsref02_Text.l0] at h⟩
  | k + 1 => by
    obtain ⟨ih0, ih1⟩ := annalsref02_Text.mono_l k
    refine ⟨?_, ?_⟩
    · intro y0 y1 y2
      unfold annalsref02_Text.j0
      repeat' first
      | (with_reducible exact ih0 _ _ _)
      | (with_reducible exact ih1 _ _ _ _)
      | (with_reducible exact LeO.refl _)
      | (with_reducible exact LeO.none _)
      | (with_reducible refine LeO.ite ?_ ?_)
      | (with_reducible refine LeO.bind ?_ (fun _ => ?_))
      | exact ih0 _ _ _
      | exact ih1 _ _ _ _
      | exact LeO.none _
      | refine LeO.ite ?_ ?_
      | refine LeO.bind ?_ (fun _ => ?_)
    · intro y0 y1 y2 y3
      unfold annalsref02_Text.l0
      repeat' first
      | (with_reducible exact ih0 _ _ _)
      | (with_reducible exact ih1 _ _ _ _)
      | (with_reducible exact LeO.refl _)
      | (with_reducible exact LeO.none _)
      | (with_reducible refine LeO.ite ?_ ?_)
      | (with_reducible refine LeO.bind ?_ (fun _ => ?_))
      | exact ih0 _ _ _
      | exact ih1 _ _ _ _
      | exact LeO.none _
      | refine LeO.ite ?_ ?_
      | refine LeO.bind ?_ (fun _ => ?_)
theorem annalsref02_Text.mono : ∀ a0 a1 k, LeO (annalsref02_Text.f k a0 a1) (annalsref02_Text.f (k + 1) a0 a1) := by
  intro a0 a1 k
  obtain ⟨ih0, ih1⟩ := annalsref02_Text.mono_l k
  unfold annalsref02_Text.f
  repeat' first
      | (with_reducible exact ih0 _ _ _)
      | (with_reducible exact ih1 _ _ _ _)
      | (with_reducible exact LeO.refl _)
      | (with_reducible exact LeO.none _)
      | (with_reducible refine LeO.ite ?_ ?_)
      | (with_reducible refine LeO.bind ?_ (fun _ => ?_))
      | exact ih0 _ _ _
      | exact ih1 _ _ _ _
      | exact LeO.none _
      | refine LeO.ite ?_ ?_
      | refine LeO.bind ?_ (fun _ => ?_)
set_option maxHeartbeats 8000000 in
set_option maxRecDepth 100000 in
theorem annalsref02_Text.calls (k : Nat) (a0 : Int) (A1 : Option Addr) (c1 : Nat) (l1 : List (List Int)) (r1 : List Int) (r2 : Int) (w : World) (hr1 : Kd.C (Kd.slice 5 (Kd.int .u8)) w A1 l1.length l1) (hc1 : l1.length <= c1) (h : annalsref02_Text.f k a0 l1 = some (r1, r2)) :
    Calls Tryd.prog 97 #[.int .i64 a0, .slice A1 l1.length c1] w fun e w' => ∃ v0_ : Value, e = .returned (.tuple #[v0_, .int .i64 r2]) /\ Kd.R (Kd.int .u8) 5 w' w.heap.size (fun _ => True) v0_ r1 /\ Below w.heap.size w w' := by
  have HR1 := z_ hr1
  have HC1 := z_ hc1
  clear hr1 hc1
  have HB := z_ (Below.refl w.heap.size w)
  have H : (if a0 < 0 then (annalsref02_Text.j0 k a0 l1 true) else (annalsref02_Text.j0 k a0 l1 (decide (a0 > 255)))) = some (r1, r2) := h
  clear h
  have HC3 := z_ H
  clear H
  go_enter Tryd.func97, Tryd.ntmps97
  go_upto_region 1 with (fail)
  go_cut [14] (fun v14 wc => ∃ (kq : Nat) (x14_2 : Bool), v14 = .bool x14_2 /\ Aside0 (annalsref02_Text.j0 kq a0 l1 x14_2 = some (r1, r2)) /\ Aside0 (kq <= k) /\ Aside0 (Below w.heap.size w wc))
  case first =>
    have H := HC3.out
    clear HC3
    by_cases c4 : a0 < 0
    · rw [if_pos c4] at H
      have c4b0 : decide (a0 < 0) = true := decide_eq_true c4
      clear c4
      (first | rw [c4b0] | (simp only [i64_w, i32_w]; rw [c4b0]) | skip)
      have H' := z_ H
      clear H
      go_wp2
      go_meet
      case rel => exact ⟨_, (true), (by first | rfl | (simp; done) | (simp [*]; done)), H', ⟨by first | omega | exact Nat.le_refl _⟩, ⟨by repeat (first | (with_reducible first | exact HB.out | apply below_alloc | apply pw_below_drewN | apply below_drew1) | exact HB.out)⟩⟩
    · rw [if_neg c4] at H
      have c4b0 : decide (a0 < 0) = false := decide_eq_false c4
      clear c4
      (first | rw [c4b0] | (simp only [i64_w, i32_w]; rw [c4b0]) | skip)
      have H' := z_ H
      clear H
      go_wp2
      go_meet
      case rel => exact ⟨_, (decide (a0 > 255)), (by first | rfl | (simp; done) | (simp [*]; done)), H', ⟨by first | omega | exact Nat.le_refl _⟩, ⟨by repeat (first | (with_reducible first | exact HB.out | apply below_alloc | apply pw_below_drewN | apply below_drew1) | exact HB.out)⟩⟩
  case rest =>
    clear HC3
    try clear c1
    try clear p2
    try clear c4
    try clear c4b0
    obtain ⟨kq, x14_2, rfl, HA, HJ2, HB⟩ := hcut
    cases kq with
    | zero => exact absurd HA.out (by simp [annalsref02_Text.j0])
    | succ kj2 =>
      have H := HA.out
      clear HA
      simp only [annalsref02_Text.j0] at H
      by_cases c5 : x14_2 = true
      · subst c5
        have H1 : (some (([] : List Int), 1)) = some (r1, r2) := by rw [if_pos rfl] at H; exact H
        clear H
        have H := H1
        clear H1
        simp only [Option.some.injEq, Prod.mk.injEq] at H
        obtain ⟨rfl, rfl⟩ := H
        go_wp2
        go_ret2
        exact ⟨_, by first | rfl | (simp [errW_none, errW_some] <;> rfl) | (simp [*, errW_none, errW_some] <;> rfl), by first | exact Kd.R_nil _ _ _ _ _ | exact Kd.N_nil _ _ _ _ _ | exact Kd.V_nil _ _ _ _ _ | exact Kd.Q_nil _ _ _ _ _ | exact Kd.S_nil _ _ _ _ _, by repeat (first | (with_reducible first | exact HB.out | apply below_alloc | apply pw_below_drewN | apply below_drew1) | exact HB.out)⟩
      · replace c5 := Bool.eq_false_iff.mpr c5
        subst c5
        have H1 : (annalsref02_Text.l0 kj2 (([(a0) % 256] : List Int)) l1 (l1.length : Int) 0) = some (r1, r2) := by rw [if_neg (show ¬ (false = true) by decide)] at H; exact H
        clear H
        have H := H1
        clear H1
        obtain ⟨y155, hy155⟩ : ∃ y_ : List Int, y_ = (([(a0) % 256] : List Int)) := ⟨_, rfl⟩
        replace H : (annalsref02_Text.l0 kj2 y155 l1 (l1.length : Int) 0) = some (r1, r2) := by first | (rw [hy155]; with_reducible exact H) | (have H2_ := (Option.bind_some _ _).symm.trans H; rw [hy155]; with_reducible exact H2_) | (have H2_ := (Option.bind_some _ _).symm.trans H; with_reducible exact H2_) | with_reducible exact H | (rw [hy155]; exact H) | exact H
        have Ny155 := z_ hy155
        clear hy155
        have H' := z_ H
        clear H
        go_wp2_with (first | ((with_reducible refine gate_dst (N := 17) rfl ?_); refine Kd.R_lit (Kd.int .u8) _ 5 ?hg (N := 17) ?hd (xs := ([(a0) % 256] : List Int)) (inner := [.int .u8 ((a0) % 256)]) (ok := fun _ => True) (okp := fun _ => True) ?hr ?hp (fun _ hk => hk) trivial (Below.refl _ _) (Nat.le_refl _) (by simp) ?_; (case hd => rfl); (case hg => rfl); (case hr => first | (go_simp; done) | (go_simp; rfl)); (case hp => exact (Reps.one (show Kd.M (Kd.int .u8) _ _ _ ((a0) % 256) [.int .u8 ((a0) % 256)] from rfl) (Reps.none _ _))); intro v156 w6 ho7 hb hg_ hnew_; clear hg_ hnew_; (first | rw [<- Ny155.out] at ho7 | (simp only [Int.reduceToNat] at ho7; rw [<- Ny155.out] at ho7)); have n0_ := z_ (Kd.R_lower ho7 (below_size (by repeat (first | (with_reducible first | exact HB.out | apply below_alloc | apply pw_below_drewN | apply below_drew1) | exact HB.out)))); have n1_ := z_ (below_step (by repeat (first | (with_reducible first | exact HB.out | apply below_alloc | apply pw_below_drewN | apply below_drew1) | exact HB.out)) hb); clear HB; have HO157 := n0_; have HB := n1_; clear n0_ n1_; clear hb ho7))
        go_loopg [6, 20] kj2 (fun kq v6 v20 w' => ∃ (x6_2 : List Int) (x20_2 : Int), v20 = .int .i64 x20_2 /\ Aside0 (annalsref02_Text.l0 kq x6_2 l1 (l1.length : Int) x20_2 = some (r1, r2)) /\ Aside0 (kq <= kj2) /\ Aside0 (Kd.R (Kd.int .u8) 5 w' w.heap.size (fun _ => True) v6 x6_2) /\ Aside0 (Below w.heap.size w w'))
        case atStart => exact ⟨(y155), (0), (by first | rfl | (simp; done) | (simp [*]; done)), H', ⟨Nat.le_refl _⟩, ⟨by (with_reducible repeat (first | apply Kd.R_alloc | apply Kd.R_drewN | apply Kd.R_drew)); exact HO157.out⟩, ⟨by repeat (first | (with_reducible first | exact HB.out | apply below_alloc | apply pw_below_drewN | apply below_drew1) | exact HB.out)⟩⟩
        case round =>
          clear H'
          try clear c1
          try clear p2
          try clear c4
          try clear c4b0
          try clear c5
          try clear p2
          obtain ⟨x6_2, x20_2, rfl, HA, HK2, HO_6, HB⟩ := hrel
          cases gk with
          | zero => exact absurd HA.out (by simp [annalsref02_Text.l0])
          | succ k2 =>
            have H := HA.out
            clear HA
            simp only [annalsref02_Text.l0] at H
            by_cases c8 : x20_2 < (l1.length : Int)
            · rw [if_pos c8] at H
              have c8b0 : decide (x20_2 < (l1.length : Int)) = true := decide_eq_true c8
              clear c8
              by_cases c9 : 0 <= x20_2
              · rw [if_pos c9] at H
                have c9b0 : decide (0 <= x20_2) = true := decide_eq_true c9
                clear c9
                by_cases c10 : x20_2 < (l1.length : Int)
                · rw [if_pos c10] at H
                  have c10b0 : decide (x20_2 < (l1.length : Int)) = true := decide_eq_true c10
                  clear c10
                  by_cases c11 : ((rd_L1 l1 x20_2).length : Int) > 65535
                  · rw [if_pos c11] at H
                    have c11b0 : decide (65535 < ((rd_L1 l1 x20_2).length : Int)) = true := decide_eq_true c11
                    have c11b1 : decide (65535 < (rd_L1 l1 x20_2).length) = true := decide_eq_true (by omega)
                    clear c11
                    simp only [Option.some.injEq, Prod.mk.injEq] at H
                    obtain ⟨rfl, rfl⟩ := H
                    have p158 : 0 <= (x20_2 : Int) := of_decide_eq_true (by first | (with_reducible assumption) | assumption)
                    have q158 : x20_2 < (l1.length : Int) := of_decide_eq_true (by first | (with_reducible assumption) | assumption)
                    obtain ⟨ad158, A158_0, c158_0, e158, hx158_0, hl158_0, hi158_0⟩ := at_L1 HR1.out x20_2 p158 q158
                    cases e158
                    replace hx158_0 := (HB.out.cell (World.block_lt_of_cell? w _ hx158_0)).trans hx158_0
                    have HR158_0 := z_ hi158_0
                    have HC158_0 := z_ hl158_0
                    clear hi158_0 hl158_0
                    replace p158 := eq_true p158
                    replace q158 := eq_true q158
                    go_wp2
                    go_ret2
                    exact ⟨_, by first | rfl | (simp [errW_none, errW_some] <;> rfl) | (simp [*, errW_none, errW_some] <;> rfl), by first | exact Kd.R_nil _ _ _ _ _ | exact Kd.N_nil _ _ _ _ _ | exact Kd.V_nil _ _ _ _ _ | exact Kd.Q_nil _ _ _ _ _ | exact Kd.S_nil _ _ _ _ _, by repeat (first | (with_reducible first | exact HB.out | apply below_alloc | apply pw_below_drewN | apply below_drew1) | exact HB.out)⟩
                  · rw [if_neg c11] at H
                    have c11b0 : decide (65535 < ((rd_L1 l1 x20_2).length : Int)) = false := decide_eq_false c11
                    have c11b1 : decide (65535 < (rd_L1 l1 x20_2).length) = false := decide_eq_false (by omega)
                    clear c11
                    obtain ⟨y159, hy159⟩ : ∃ y_ : List Int, y_ = (([(((rd_L1 l1 x20_2).length : Int) / 256) % 256, (((rd_L1 l1 x20_2).length : Int)) % 256] : List Int)) := ⟨_, rfl⟩
                    replace H : (if x6_2.length + y159.length < 140737488355328 then ((some (x6_2 ++ y159 : List Int)).bind fun y162 => (if y162.length + (rd_L1 l1 x20_2).length < 140737488355328 then (annalsref02_Text.l0 k2 (y162 ++ (rd_L1 l1 x20_2)) l1 (l1.length : Int) (wrap64 (x20_2 + 1))) else (none))) else (none)) = some (r1, r2) := by first | (rw [hy159]; with_reducible exact H) | (have H2_ := (Option.bind_some _ _).symm.trans H; rw [hy159]; with_reducible exact H2_) | (have H2_ := (Option.bind_some _ _).symm.trans H; with_reducible exact H2_) | with_reducible exact H | (rw [hy159]; exact H) | exact H
                    have Ny159 := z_ hy159
                    clear hy159
                    by_cases c12 : x6_2.length + y159.length < 140737488355328
                    · rw [if_pos c12] at H
                      have LMc12 := z_ c12
                      clear c12
                      obtain ⟨y162, hy162⟩ : ∃ y_ : List Int, y_ = (x6_2 ++ y159) := ⟨_, rfl⟩
                      replace H : (if y162.length + (rd_L1 l1 x20_2).length < 140737488355328 then (annalsref02_Text.l0 k2 (y162 ++ (rd_L1 l1 x20_2)) l1 (l1.length : Int) (wrap64 (x20_2 + 1))) else (none)) = some (r1, r2) := by first | (rw [hy162]; with_reducible exact H) | (have H2_ := (Option.bind_some _ _).symm.trans H; rw [hy162]; with_reducible exact H2_) | (have H2_ := (Option.bind_some _ _).symm.trans H; with_reducible exact H2_) | with_reducible exact H | (rw [hy162]; exact H) | exact H
                      have Ny162 := z_ hy162
                      clear hy162
                      by_cases c13 : y162.length + (rd_L1 l1 x20_2).length < 140737488355328
                      · rw [if_pos c13] at H
                        have LMc13 := z_ c13
                        clear c13
                        obtain ⟨y165, hy165⟩ : ∃ y_ : List Int, y_ = (y162 ++ (rd_L1 l1 x20_2)) := ⟨_, rfl⟩
                        replace H : (annalsref02_Text.l0 k2 y165 l1 (l1.length : Int) (wrap64 (x20_2 + 1))) = some (r1, r2) := by first | (rw [hy165]; with_reducible exact H) | (have H2_ := (Option.bind_some _ _).symm.trans H; rw [hy165]; with_reducible exact H2_) | (have H2_ := (Option.bind_some _ _).symm.trans H; with_reducible exact H2_) | with_reducible exact H | (rw [hy165]; exact H) | exact H
                        have Ny165 := z_ hy165
                        clear hy165
                        have H' := z_ H
                        clear H
                        have p158 : 0 <= (x20_2 : Int) := of_decide_eq_true (by first | (with_reducible assumption) | assumption)
                        have q158 : x20_2 < (l1.length : Int) := of_decide_eq_true (by first | (with_reducible assumption) | assumption)
                        obtain ⟨ad158, A158_0, c158_0, e158, hx158_0, hl158_0, hi158_0⟩ := at_L1 HR1.out x20_2 p158 q158
                        cases e158
                        replace hx158_0 := (HB.out.cell (World.block_lt_of_cell? w _ hx158_0)).trans hx158_0
                        have HR158_0 := z_ hi158_0
                        have HC158_0 := z_ hl158_0
                        clear hi158_0 hl158_0
                        replace p158 := eq_true p158
                        replace q158 := eq_true q158
                        go_wp2_with (first | ((with_reducible refine gate_dst (N := 35) rfl ?_); refine Kd.R_lit (Kd.int .u8) _ 5 ?hg (N := 35) ?hd (xs := ([(((rd_L1 l1 x20_2).length : Int) / 256) % 256, (((rd_L1 l1 x20_2).length : Int)) % 256] : List Int)) (inner := [.int .u8 ((((rd_L1 l1 x20_2).length : Int) / 256) % 256), .int .u8 ((((rd_L1 l1 x20_2).length : Int)) % 256)]) (ok := fun _ => True) (okp := fun _ => True) ?hr ?hp (fun _ hk => hk) trivial (Below.refl _ _) (Nat.le_refl _) (by simp) ?_; (case hd => rfl); (case hg => rfl); (case hr => first | (go_simp; done) | (go_simp; rfl)); (case hp => exact (Reps.one (show Kd.M (Kd.int .u8) _ _ _ ((((rd_L1 l1 x20_2).length : Int) / 256) % 256) [.int .u8 ((((rd_L1 l1 x20_2).length : Int) / 256) % 256)] from rfl) (Reps.one (show Kd.M (Kd.int .u8) _ _ _ ((((rd_L1 l1 x20_2).length : Int)) % 256) [.int .u8 ((((rd_L1 l1 x20_2).length : Int)) % 256)] from rfl) (Reps.none _ _)))); intro v160 w14 ho15 hb hg_ hnew_; clear hg_ hnew_; (first | rw [<- Ny159.out] at ho15 | (simp only [Int.reduceToNat] at ho15; rw [<- Ny159.out] at ho15)); have n0_ := z_ (Kd.R_elder' (by (with_reducible repeat (first | apply Kd.R_alloc | apply Kd.R_drewN | apply Kd.R_drew)); exact HO_6.out) (Kd.R_base ho15) hb); have n1_ := z_ (Kd.R_lower (Kd.R_new' ho15 (Kd.R_lt (by (with_reducible repeat (first | apply Kd.R_alloc | apply Kd.R_drewN | apply Kd.R_drew)); exact HO_6.out))) (below_size (by repeat (first | (with_reducible first | exact HB.out | apply below_alloc | apply pw_below_drewN | apply below_drew1) | exact HB.out)))); have n2_ := z_ (below_step (by repeat (first | (with_reducible first | exact HB.out | apply below_alloc | apply pw_below_drewN | apply below_drew1) | exact HB.out)) hb); clear HO_6; clear HB; have HO_6 := n0_; have HO161 := n1_; have HB := n2_; clear n0_ n1_ n2_; clear hb ho15; obtain ⟨Ao17, co17, eo17⟩ := Kd.R_slice HO161.out; subst eo17) | ((with_reducible refine gate_builtin (b := .append) (xs := #[.tmp 27, .tmp 35]) rfl ?_); at_builtin; refine Kd.R_append_rows (Kd.int .u8) (w0 := w) w.heap.size rfl (.tmp 27) (.tmp 35) 31 5 (.int .u8 0) 1 rfl Tryd.underlying31 info5 rfl (by decide) (by omega) u6 x6_2 y159 _ _ _ (fun k_ => some k_ ≠ (.slice Ao17 y159.length co17 : Value).ownBlock) (fun _ => False) rfl rfl ?aO ?aR (fun _ _ h => h) (fun _ h => h.elim) ?aF ?aB ?aS ?aL ?_; (case aR => repeat (first | exact (Kd.R_reads' HO161.out).2.2 | (with_reducible refine Kd.C_alloc ?_ _) | (with_reducible refine Kd.C_drewN ?_ _) | (with_reducible refine Kd.C_drew ?_))); (case aB => exact (by repeat (first | (with_reducible first | exact HB.out | apply below_alloc | apply pw_below_drewN | apply below_drew1) | exact HB.out))); (case aF => exact (fun k_ hk => Kd.fresh' (Kd.R_lt (by (with_reducible repeat (first | apply Kd.R_alloc | apply Kd.R_drewN | apply Kd.R_drew)); exact HO161.out)) k_ hk)); (case aO => exact (by (with_reducible repeat (first | apply Kd.R_alloc | apply Kd.R_drewN | apply Kd.R_drew)); exact Kd.R_mono HO_6.out (fun _ hk => hk.2))); (case aS => exact (below_size (by repeat (first | (with_reducible first | exact HB.out | apply below_alloc | apply pw_below_drewN | apply below_drew1) | exact HB.out)))); (case aL => have := LMc12.out; omega); intro v163 w16 ho hb hg hat; rw [<- Ny162.out] at ho; have n0_ := z_ (Kd.R_after (ok := (fun _ => True)) (by (with_reducible repeat (first | apply Kd.R_alloc | apply Kd.R_drewN | apply Kd.R_drew)); exact HO161.out) hg hat); have n1_ := z_ (hb); have n2_ := z_ (ho); clear HO161; clear HB; clear HO_6; have HO161 := n0_; have HB := n1_; have HO164 := n2_; clear n0_ n1_ n2_; clear ho hb hg hat) | ((with_reducible refine gate_builtin (b := .append) (xs := #[.tmp 36, .tmp 37]) rfl ?_); at_builtin; refine Kd.R_append_rows (Kd.int .u8) (w0 := w) w.heap.size rfl (.tmp 36) (.tmp 37) 31 5 (.int .u8 0) 1 rfl Tryd.underlying31 info5 rfl (by decide) (by omega) v163 y162 (rd_L1 l1 x20_2) _ _ _ (fun k_ => some k_ ≠ (.slice Ao17 y159.length co17 : Value).ownBlock) (fun _ => False) rfl rfl ?aO ?aR (fun _ _ h => h) (fun _ h => h.elim) ?aF ?aB ?aS ?aL ?_; (case aR => repeat (first | exact (Kd.C_below HR158_0.out HB.out) | (with_reducible refine Kd.C_alloc ?_ _) | (with_reducible refine Kd.C_drewN ?_ _) | (with_reducible refine Kd.C_drew ?_))); (case aB => exact (by repeat (first | (with_reducible first | exact HB.out | apply below_alloc | apply pw_below_drewN | apply below_drew1) | exact HB.out))); (case aF => exact (fun k_ hk => Kd.fresh' (Kd.R_lt (by (with_reducible repeat (first | apply Kd.R_alloc | apply Kd.R_drewN | apply Kd.R_drew)); exact HO161.out)) k_ hk)); (case aO => exact (by (with_reducible repeat (first | apply Kd.R_alloc | apply Kd.R_drewN | apply Kd.R_drew)); exact HO164.out)); (case aS => exact (below_size (by repeat (first | (with_reducible first | exact HB.out | apply below_alloc | apply pw_below_drewN | apply below_drew1) | exact HB.out)))); (case aL => have := LMc13.out; omega); intro v166 w18 ho hb hg hat; rw [<- Ny165.out] at ho; have n0_ := z_ (Kd.R_after (ok := (fun _ => True)) (by (with_reducible repeat (first | apply Kd.R_alloc | apply Kd.R_drewN | apply Kd.R_drew)); exact HO161.out) hg hat); have n1_ := z_ (hb); have n2_ := z_ (ho); clear HO161; clear HB; clear HO164; have HO161 := n0_; have HB := n1_; have HO167 := n2_; clear n0_ n1_ n2_; clear ho hb hg hat))
                        go_roundg k2
                        case measure => have := HJ2.out; have := HK2.out; omega
                        case rel => exact ⟨(y165), (wrap64 (x20_2 + 1)), (by first | rfl | (simp; done) | (simp [*]; done)), H', ⟨by have := HJ2.out; have := HK2.out; omega⟩, ⟨by (with_reducible repeat (first | apply Kd.R_alloc | apply Kd.R_drewN | apply Kd.R_drew)); exact Kd.R_mono HO167.out (fun _ hk => trivial)⟩, ⟨by repeat (first | (with_reducible first | exact HB.out | apply below_alloc | apply pw_below_drewN | apply below_drew1) | exact HB.out)⟩⟩
                      · rw [if_neg c13] at H
                        exact absurd H (by simp)
                    · rw [if_neg c12] at H
                      exact absurd H (by simp)
                · rw [if_neg c10] at H
                  exact absurd H (by simp)
              · rw [if_neg c9] at H
                exact absurd H (by simp)
            · rw [if_neg c8] at H
              have c8b0 : decide (x20_2 < (l1.length : Int)) = false := decide_eq_false c8
              clear c8
              simp only [Option.some.injEq, Prod.mk.injEq] at H
              obtain ⟨rfl, rfl⟩ := H
              go_wp2
              go_ret2
              exact ⟨_, by first | rfl | (simp [errW_none, errW_some] <;> rfl) | (simp [*, errW_none, errW_some] <;> rfl), by (with_reducible repeat (first | apply Kd.R_alloc | apply Kd.R_drewN | apply Kd.R_drew)); exact HO_6.out, by repeat (first | (with_reducible first | exact HB.out | apply below_alloc | apply pw_below_drewN | apply below_drew1) | exact HB.out)⟩
def annalsref02_Hash.f (k : Nat) (a0 : Int) (a1 : Int) (l2 : List (List Int)) : Option (List Int) := (annalsref02_Text.f k a1 l2).bind fun bt178 => (if bt178.2 = 0 then ((annalsref01_Cut.f a0 bt178.1).bind fun t182 => (some t182)) else (some ([] : List Int)))
theorem annalsref02_Hash.mono : ∀ a0 a1 a2 k, LeO (annalsref02_Hash.f k a0 a1 a2) (annalsref02_Hash.f (k + 1) a0 a1 a2) := by
  intro a0 a1 a2 k
  unfold annalsref02_Hash.f
  repeat' first
      | (with_reducible exact annalsref02_Text.mono _ _ _)
      | (with_reducible exact LeO.refl _)
      | (with_reducible exact LeO.none _)
      | (with_reducible refine LeO.ite ?_ ?_)
      | (with_reducible refine LeO.bind ?_ (fun _ => ?_))
      | exact annalsref02_Text.mono _ _ _
      | exact LeO.none _
      | refine LeO.ite ?_ ?_
      | refine LeO.bind ?_ (fun _ => ?_)
set_option maxHeartbeats 8000000 in
set_option maxRecDepth 100000 in
theorem annalsref02_Hash.calls (k : Nat) (a0 : Int) (a1 : Int) (A2 : Option Addr) (c2 : Nat) (l2 : List (List Int)) (r : List Int) (w : World) (hr2 : Kd.C (Kd.slice 5 (Kd.int .u8)) w A2 l2.length l2) (hc2 : l2.length <= c2) (h : annalsref02_Hash.f k a0 a1 l2 = some r) :
    Calls Tryd.prog 81 #[.int .i64 a0, .int .i64 a1, .slice A2 l2.length c2] w fun e w' => ∃ v0_ : Value, e = .returned (v0_) /\ Kd.R (Kd.int .u8) 5 w' w.heap.size (fun _ => True) v0_ r /\ Below w.heap.size w w' := by
  have HR2 := z_ hr2
  have HC2 := z_ hc2
  clear hr2 hc2
  have HB := z_ (Below.refl w.heap.size w)
  have H : ((annalsref02_Text.f k a1 l2).bind fun bt178 => (if bt178.2 = 0 then ((annalsref01_Cut.f a0 bt178.1).bind fun t182 => (some t182)) else (some ([] : List Int)))) = some r := h
  clear h
  replace H := Option.bind_eq_some_iff.mp H
  obtain ⟨⟨t178, t179⟩, A40, H⟩ := H
  replace H : (if t179 = 0 then ((annalsref01_Cut.f a0 t178).bind fun t182 => (some t182)) else (some ([] : List Int))) = some r := H
  have A4 := z_ A40
  clear A40
  by_cases c5 : t179 = 0
  · rw [if_pos c5] at H
    have c5b0 : (t179 == 0) = true := beq_iff_eq.mpr c5
    have c5b1 : (t179 != 0) = false := bne_eq_false_iff_eq.mpr c5
    clear c5
    replace H := Option.bind_eq_some_iff.mp H
    obtain ⟨t182, A60, H⟩ := H
    replace H : (some t182) = some r := H
    have A6 := z_ A60
    clear A60
    obtain rfl := Option.some.inj H
    go_enter Tryd.func81, Tryd.ntmps81
    go_wp2_with (first | ((with_reducible refine gate_callee (f := 97) rfl ?_); refine goesL_ (some 12) rfl rfl Tryd.func97 (by kernel_rfl) rfl #[.int .i64 a1, .slice A2 l2.length c2] rfl (by (try simp only [List.map_toArray, List.map_cons, List.map_nil]); first | done | rfl | (simp only [List.length_drop, List.length_take]; rfl)) ?_; (with_reducible refine (annalsref02_Text.calls k a1 _ _ l2 t178 t179 _ ?side1 ?side2 A4.out).mono ?_); (case side1 => repeat (first | exact HR2.out | (with_reducible refine Kd.C_alloc ?_ _) | (with_reducible refine Kd.C_drewN ?_ _) | (with_reducible refine Kd.C_drew ?_))); (case side2 => exact HC2.out); rintro e w7 ⟨v180, rfl, ho0, hb⟩; refine ⟨_, rfl, ?_⟩; have n0_ := z_ (Kd.R_lower ho0 (below_size (by repeat (first | (with_reducible first | exact HB.out | apply below_alloc | apply pw_below_drewN | apply below_drew1) | exact HB.out)))); have n1_ := z_ (below_step (by repeat (first | (with_reducible first | exact HB.out | apply below_alloc | apply pw_below_drewN | apply below_drew1) | exact HB.out)) hb); clear HB; have HO181 := n0_; have HB := n1_; clear n0_ n1_; (try clear hb); (try clear hb2); (try clear hk); (try clear hi); (try clear ho0); obtain ⟨Ao8, co8, eo8⟩ := Kd.R_slice HO181.out; subst eo8) | ((with_reducible refine gate_callee (f := 98) rfl ?_); refine goesL_ (some 19) rfl rfl Tryd.func98 (by kernel_rfl) rfl #[.int .i64 a0, .slice Ao8 t178.length co8] rfl (by (try simp only [List.map_toArray, List.map_cons, List.map_nil]); first | done | rfl | (simp only [List.length_drop, List.length_take]; rfl)) ?_; (with_reducible refine (annalsref01_Cut.calls a0 _ _ t178 t182 _ ?side1 ?side2 A6.out).mono ?_); (case side1 => repeat (first | exact (Kd.R_reads' HO181.out).2.2 | (with_reducible refine Kd.C_alloc ?_ _) | (with_reducible refine Kd.C_drewN ?_ _) | (with_reducible refine Kd.C_drew ?_))); (case side2 => exact (Kd.R_reads' HO181.out).2.1); rintro e w9 ⟨v183, rfl, ho0, hb⟩; refine ⟨_, rfl, ?_⟩; have n0_ := z_ (Kd.R_elder' (by (with_reducible repeat (first | apply Kd.R_alloc | apply Kd.R_drewN | apply Kd.R_drew)); exact HO181.out) (Kd.R_base ho0) hb); have n1_ := z_ (Kd.R_lower (Kd.R_new' ho0 (Kd.R_lt (by (with_reducible repeat (first | apply Kd.R_alloc | apply Kd.R_drewN | apply Kd.R_drew)); exact HO181.out))) (below_size (by repeat (first | (with_reducible first | exact HB.out | apply below_alloc | apply pw_below_drewN | apply below_drew1) | exact HB.out)))); have n2_ := z_ (below_step (by repeat (first | (with_reducible first | exact HB.out | apply below_alloc | apply pw_below_drewN | apply below_drew1) | exact HB.out)) hb); clear HO181; clear HB; have HO181 := n0_; have HO184 := n1_; have HB := n2_; clear n0_ n1_ n2_; (try clear hb); (try clear hb2); (try clear hk); (try clear hi); (try clear ho0)))
    go_ret
    exact ⟨_, by first | rfl | (simp [errW_none, errW_some] <;> rfl) | (simp [*, errW_none, errW_some] <;> rfl), by (with_reducible repeat (first | apply Kd.R_alloc | apply Kd.R_drewN | apply Kd.R_drew)); exact Kd.R_mono HO184.out (fun _ hk => trivial), by repeat (first | (with_reducible first | exact HB.out | apply below_alloc | apply pw_below_drewN | apply below_drew1) | exact HB.out)⟩
  · rw [if_neg c5] at H
    have c5b0 : (t179 == 0) = false := beq_eq_false_iff_ne.mpr c5
    have c5b1 : (t179 != 0) = true := bne_iff_ne.mpr c5
    obtain rfl := Option.some.inj H
    go_enter Tryd.func81, Tryd.ntmps81
    go_wp2_with (first | ((with_reducible refine gate_callee (f := 97) rfl ?_); refine goesL_ (some 12) rfl rfl Tryd.func97 (by kernel_rfl) rfl #[.int .i64 a1, .slice A2 l2.length c2] rfl (by (try simp only [List.map_toArray, List.map_cons, List.map_nil]); first | done | rfl | (simp only [List.length_drop, List.length_take]; rfl)) ?_; (with_reducible refine (annalsref02_Text.calls k a1 _ _ l2 t178 t179 _ ?side1 ?side2 A4.out).mono ?_); (case side1 => repeat (first | exact HR2.out | (with_reducible refine Kd.C_alloc ?_ _) | (with_reducible refine Kd.C_drewN ?_ _) | (with_reducible refine Kd.C_drew ?_))); (case side2 => exact HC2.out); rintro e w10 ⟨v180, rfl, ho0, hb⟩; refine ⟨_, rfl, ?_⟩; have n0_ := z_ (Kd.R_lower ho0 (below_size (by repeat (first | (with_reducible first | exact HB.out | apply below_alloc | apply pw_below_drewN | apply below_drew1) | exact HB.out)))); have n1_ := z_ (below_step (by repeat (first | (with_reducible first | exact HB.out | apply below_alloc | apply pw_below_drewN | apply below_drew1) | exact HB.out)) hb); clear HB; have HO181 := n0_; have HB := n1_; clear n0_ n1_; (try clear hb); (try clear hb2); (try clear hk); (try clear hi); (try clear ho0)))
    go_ret
    exact ⟨_, by first | rfl | (simp [errW_none, errW_some] <;> rfl) | (simp [*, errW_none, errW_some] <;> rfl), by first | exact Kd.R_nil _ _ _ _ _ | exact Kd.N_nil _ _ _ _ _ | exact Kd.V_nil _ _ _ _ _ | exact Kd.Q_nil _ _ _ _ _ | exact Kd.S_nil _ _ _ _ _, by repeat (first | (with_reducible first | exact HB.out | apply below_alloc | apply pw_below_drewN | apply below_drew1) | exact HB.out)⟩
def annalsref02_Number.l0 : Nat -> Int -> List Int -> Int -> Option (List Int)
  | 0, _, _, _ => none
  | k + 1, x0, x3, x4 => if x4 >= 0 then (if 0 <= x4 then (if x3.length < 140737488355328 then (annalsref02_Number.l0 k x0 (x3 ++ [(shr .u64 (IntKind.u64.wrap (x0)) x4) % 256]) (wrap64 (x4 - 8))) else (none)) else (none)) else (some x3)
def annalsref02_Number.f (k : Nat) (a0 : Int) : Option (List Int) := annalsref02_Number.l0 k a0 ([] : List Int) 56
theorem annalsref02_Number.mono_l : ∀ k, (∀ y0 y1 y2, LeO (annalsref02_Number.l0 k y0 y1 y2) (annalsref02_Number.l0 (k + 1) y0 y1 y2))
  | 0 => fun _ _ _ r h => by simp [annalsref02_Number.l0] at h
  | k + 1 => by
    have ih0 := annalsref02_Number.mono_l k
    · intro y0 y1 y2
      unfold annalsref02_Number.l0
      repeat' first
      | (with_reducible exact ih0 _ _ _)
      | (with_reducible exact LeO.refl _)
      | (with_reducible exact LeO.none _)
      | (with_reducible refine LeO.ite ?_ ?_)
      | (with_reducible refine LeO.bind ?_ (fun _ => ?_))
      | exact ih0 _ _ _
      | exact LeO.none _
      | refine LeO.ite ?_ ?_
      | refine LeO.bind ?_ (fun _ => ?_)
theorem annalsref02_Number.mono : ∀ a0 k, LeO (annalsref02_Number.f k a0) (annalsref02_Number.f (k + 1) a0) := by
  intro a0 k
  have ih0 := annalsref02_Number.mono_l k
  unfold annalsref02_Number.f
  repeat' first
      | (with_reducible exact ih0 _ _ _)
      | (with_reducible exact LeO.refl _)
      | (with_reducible exact LeO.none _)
      | (with_reducible refine LeO.ite ?_ ?_)
      | (with_reducible refine LeO.bind ?_ (fun _ => ?_))
      | exact ih0 _ _ _
      | exact LeO.none _
      | refine LeO.ite ?_ ?_
      | refine LeO.bind ?_ (fun _ => ?_)
set_option maxHeartbeats 8000000 in
set_option maxRecDepth 100000 in
theorem annalsref02_Number.calls (k : Nat) (a0 : Int) (r : List Int) (w : World) (h : annalsref02_Number.f k a0 = some r) :
    Calls Tryd.prog 96 #[.int .i64 a0] w fun e w' => ∃ v0_ : Value, e = .returned (v0_) /\ Kd.R (Kd.int .u8) 5 w' w.heap.size (fun _ => True) v0_ r /\ Below w.heap.size w w' := by
  have HB := z_ (Below.refl w.heap.size w)
  have H : (annalsref02_Number.l0 k a0 ([] : List Int) 56) = some r := h
  clear h
  have H' := z_ H
  clear H
  go_enter Tryd.func96, Tryd.ntmps96
  go_wp2
  go_loopg [3, 4] k (fun kq v3 v4 w' => ∃ (x3_1 : List Int) (x4_1 : Int), v4 = .int .i64 x4_1 /\ Aside0 (annalsref02_Number.l0 kq a0 x3_1 x4_1 = some r) /\ Aside0 (kq <= k) /\ Aside0 (Kd.R (Kd.int .u8) 5 w' w.heap.size (fun _ => True) v3 x3_1) /\ Aside0 (Below w.heap.size w w'))
  case atStart => exact ⟨(([] : List Int)), (56), (by first | rfl | (simp; done) | (simp [*]; done)), H', ⟨Nat.le_refl _⟩, ⟨by first | exact Kd.R_nil _ _ _ _ _ | exact Kd.N_nil _ _ _ _ _ | exact Kd.V_nil _ _ _ _ _ | exact Kd.Q_nil _ _ _ _ _ | exact Kd.S_nil _ _ _ _ _⟩, ⟨by repeat (first | (with_reducible first | exact HB.out | apply below_alloc | apply pw_below_drewN | apply below_drew1) | exact HB.out)⟩⟩
  case round =>
    clear H'
    obtain ⟨x3_1, x4_1, rfl, HA, HK1, HO_3, HB⟩ := hrel
    cases gk with
    | zero => exact absurd HA.out (by simp [annalsref02_Number.l0])
    | succ k1 =>
      have H := HA.out
      clear HA
      simp only [annalsref02_Number.l0] at H
      by_cases c2 : x4_1 >= 0
      · rw [if_pos c2] at H
        have c2b0 : decide (0 <= x4_1) = true := decide_eq_true c2
        clear c2
        by_cases c3 : 0 <= x4_1
        · rw [if_pos c3] at H
          have c3b0 := eq_true c3
          have c3b1 : decide (0 <= x4_1) = true := decide_eq_true c3
          clear c3
          obtain ⟨ji4, hji4⟩ : ∃ j_ : Int, (shr .u64 (IntKind.u64.wrap (a0)) x4_1) = j_ := ⟨_, rfl⟩
          replace H : (if x3_1.length < 140737488355328 then (annalsref02_Number.l0 k1 a0 (x3_1 ++ [(ji4) % 256]) (wrap64 (x4_1 - 8))) else (none)) = some r := by first | (rw [hji4] at H; exact H) | (simp only [hji4] at H ⊢; exact H)
          have hji4_ : ((IntKind.u64.wrap (a0)) / 2 ^ min x4_1.toNat 64) = ji4 := hji4
          have hji4z : x4_1 <= 64 -> ((IntKind.u64.wrap (a0)) / 2 ^ x4_1.toNat) = ji4 := shr_small hji4
          by_cases c5 : x3_1.length < 140737488355328
          · rw [if_pos c5] at H
            have LMc5 := z_ c5
            clear c5
            obtain ⟨y185, hy185⟩ : ∃ y_ : List Int, y_ = (x3_1 ++ [(ji4) % 256]) := ⟨_, rfl⟩
            replace H : (annalsref02_Number.l0 k1 a0 y185 (wrap64 (x4_1 - 8))) = some r := by first | (rw [hy185]; with_reducible exact H) | (have H2_ := (Option.bind_some _ _).symm.trans H; rw [hy185]; with_reducible exact H2_) | (have H2_ := (Option.bind_some _ _).symm.trans H; with_reducible exact H2_) | with_reducible exact H | (rw [hy185]; exact H) | exact H
            have Ny185 := z_ hy185
            clear hy185
            have H' := z_ H
            clear H
            go_wp2_with (first | ((with_reducible refine gate_builtin (b := .append) (xs := #[.tmp 9, .tmp 15]) rfl ?_); at_builtin; refine Kd.R_append (Kd.int .u8) (w0 := w) w.heap.size rfl (.tmp 9) (.tmp 15) 31 5 (.int .u8 0) 1 rfl Tryd.underlying31 info5 rfl (by decide) (by omega) u3 x3_1 ((ji4) % 256) [.int .u8 ((ji4) % 256)] (fun _ => True) (fun _ => False) rfl rfl ?aP (fun _ hk => hk.elim) ?aF ?aO ?aB ?aS ?aL ?_; (case aP => exact rfl); (case aB => exact (by repeat (first | (with_reducible first | exact HB.out | apply below_alloc | apply pw_below_drewN | apply below_drew1) | exact HB.out))); (case aF => exact (fun _ _ => trivial)); (case aO => exact (by (with_reducible repeat (first | apply Kd.R_alloc | apply Kd.R_drewN | apply Kd.R_drew)); exact HO_3.out)); (case aS => exact (below_size (by repeat (first | (with_reducible first | exact HB.out | apply below_alloc | apply pw_below_drewN | apply below_drew1) | exact HB.out)))); (case aL => have := LMc5.out; omega); intro v186 w6 ho hb hg hat; rw [<- Ny185.out] at ho; have n0_ := z_ (hb); have n1_ := z_ (ho); clear HB; clear HO_3; have HB := n0_; have HO187 := n1_; clear n0_ n1_; clear ho hb hg hat))
            go_roundg k1
            case measure => have := HK1.out; omega
            case rel => exact ⟨(y185), (wrap64 (x4_1 - 8)), (by first | rfl | (simp; done) | (simp [*]; done)), H', ⟨by have := HK1.out; omega⟩, ⟨by (with_reducible repeat (first | apply Kd.R_alloc | apply Kd.R_drewN | apply Kd.R_drew)); exact HO187.out⟩, ⟨by repeat (first | (with_reducible first | exact HB.out | apply below_alloc | apply pw_below_drewN | apply below_drew1) | exact HB.out)⟩⟩
          · rw [if_neg c5] at H
            exact absurd H (by simp)
        · rw [if_neg c3] at H
          exact absurd H (by simp)
      · rw [if_neg c2] at H
        have c2b0 : decide (0 <= x4_1) = false := decide_eq_false c2
        clear c2
        obtain rfl := Option.some.inj H
        go_wp2
        go_ret
        exact ⟨_, by first | rfl | (simp [errW_none, errW_some] <;> rfl) | (simp [*, errW_none, errW_some] <;> rfl), by (with_reducible repeat (first | apply Kd.R_alloc | apply Kd.R_drewN | apply Kd.R_drew)); exact HO_3.out, by repeat (first | (with_reducible first | exact HB.out | apply below_alloc | apply pw_below_drewN | apply below_drew1) | exact HB.out)⟩
mutual
def annalsref03_First.l0 : Nat -> List Int -> Int -> List Int -> Int -> Option (List Int)
  | 0, _, _, _, _ => none
  | k + 1, x0, x1, x5, x6 => if x6 < x1 then (annalsref03_First.j1 k x0 x1 x5 x6 (decide ((wrap64 (Int.tdiv x6 8)) < (x0.length : Int)))) else (annalsref03_First.j1 k x0 x1 x5 x6 false)
def annalsref03_First.j1 : Nat -> List Int -> Int -> List Int -> Int -> Bool -> Option (List Int)
  | 0, _, _, _, _, _ => none
  | k + 1, x0, x1, x5, x6, x17 => if x17 = true then (if 0 <= (wrap64 (Int.tdiv x6 8)) then (if (wrap64 (Int.tdiv x6 8)) < (x0.length : Int) then (if (wrap64 (x1 - x6)) < 8 then (if 0 <= (wrap64 (8 - (wrap64 (x1 - x6)))) then (if x5.length < 140737488355328 then (annalsref03_First.l0 k x0 x1 (x5 ++ [shl .u8 (shr .u8 (rd x0 (wrap64 (Int.tdiv x6 8))) (wrap64 (8 - (wrap64 (x1 - x6))))) (wrap64 (8 - (wrap64 (x1 - x6))))]) (wrap64 (x6 + 8))) else (none)) else (none)) else (if x5.length < 140737488355328 then (annalsref03_First.l0 k x0 x1 (x5 ++ [rd x0 (wrap64 (Int.tdiv x6 8))]) (wrap64 (x6 + 8))) else (none))) else (none)) else (none)) else (some x5)
end
def annalsref03_First.f (k : Nat) (l0 : List Int) (a1 : Int) : Option (List Int) := annalsref03_First.l0 k l0 a1 ([] : List Int) 0
theorem annalsref03_First.mono_l : ∀ k, (∀ y0 y1 y2 y3, LeO (annalsref03_First.l0 k y0 y1 y2 y3) (annalsref03_First.l0 (k + 1) y0 y1 y2 y3)) /\ (∀ y0 y1 y2 y3 y4, LeO (annalsref03_First.j1 k y0 y1 y2 y3 y4) (annalsref03_First.j1 (k + 1) y0 y1 y2 y3 y4))
  | 0 => ⟨fun _ _ _ _ r h => by simp [annalsref03_First.l0] at h, fun _ _ _ _ _ r h => by simp [annalsref03_First.j1] at h⟩
  | k + 1 => by
    obtain ⟨ih0, ih1⟩ := annalsref03_First.mono_l k
    refine ⟨?_, ?_⟩
    · intro y0 y1 y2 y3
      unfold annalsref03_First.l0
      repeat' first
      | (with_reducible exact ih0 _ _ _ _)
      | (with_reducible exact ih1 _ _ _ _ _)
      | (with_reducible exact LeO.refl _)
      | (with_reducible exact LeO.none _)
      | (with_reducible refine LeO.ite ?_ ?_)
      | (with_reducible refine LeO.bind ?_ (fun _ => ?_))
      | exact ih0 _ _ _ _
      | exact ih1 _ _ _ _ _
      | exact LeO.none _
      | refine LeO.ite ?_ ?_
      | refine LeO.bind ?_ (fun _ => ?_)
    · intro y0 y1 y2 y3 y4
      unfold annalsref03_First.j1
      repeat' first
      | (with_reducible exact ih0 _ _ _ _)
      | (with_reducible exact ih1 _ _ _ _ _)
      | (with_reducible exact LeO.refl _)
      | (with_reducible exact LeO.none _)
      | (with_reducible refine LeO.ite ?_ ?_)
      | (with_reducible refine LeO.bind ?_ (fun _ => ?_))
      | exact ih0 _ _ _ _
      | exact ih1 _ _ _ _ _
      | exact LeO.none _
      | refine LeO.ite ?_ ?_
      | refine LeO.bind ?_ (fun _ => ?_)
theorem annalsref03_First.mono : ∀ a0 a1 k, LeO (annalsref03_First.f k a0 a1) (annalsref03_First.f (k + 1) a0 a1) := by
  intro a0 a1 k
  obtain ⟨ih0, ih1⟩ := annalsref03_First.mono_l k
  unfold annalsref03_First.f
  repeat' first
      | (with_reducible exact ih0 _ _ _ _)
      | (with_reducible exact ih1 _ _ _ _ _)
      | (with_reducible exact LeO.refl _)
      | (with_reducible exact LeO.none _)
      | (with_reducible refine LeO.ite ?_ ?_)
      | (with_reducible refine LeO.bind ?_ (fun _ => ?_))
      | exact ih0 _ _ _ _
      | exact ih1 _ _ _ _ _
      | exact LeO.none _
      | refine LeO.ite ?_ ?_
      | refine LeO.bind ?_ (fun _ => ?_)
set_option maxHeartbeats 8000000 in
set_option maxRecDepth 100000 in
theorem annalsref03_First.calls (k : Nat) (A0 : Option Addr) (c0 : Nat) (l0 : List Int) (a1 : Int) (r : List Int) (w : World) (hr0 : Kd.C (Kd.int .u8) w A0 l0.length l0) (hc0 : l0.length <= c0) (h : annalsref03_First.f k l0 a1 = some r) :
    Calls Tryd.prog 79 #[.slice A0 l0.length c0, .int .i64 a1] w fun e w' => ∃ v0_ : Value, e = .returned (v0_) /\ Kd.R (Kd.int .u8) 5 w' w.heap.size (fun _ => True) v0_ r /\ Below w.heap.size w w' := by
  have HR0 := z_ hr0
  have HC0 := z_ hc0
  clear hr0 hc0
  have HB := z_ (Below.refl w.heap.size w)
  have H : (annalsref03_First.l0 k l0 a1 ([] : List Int) 0) = some r := h
  clear h
  have H' := z_ H
  clear H
  go_enter Tryd.func79, Tryd.ntmps79
  go_wp2
  go_loopg [5, 6] k (fun kq v5 v6 w' => ∃ (x5_1 : List Int) (x6_1 : Int), v6 = .int .i64 x6_1 /\ Aside0 (annalsref03_First.l0 kq l0 a1 x5_1 x6_1 = some r) /\ Aside0 (kq <= k) /\ Aside0 (Kd.R (Kd.int .u8) 5 w' w.heap.size (fun _ => True) v5 x5_1) /\ Aside0 (Below w.heap.size w w'))
  case atStart => exact ⟨(([] : List Int)), (0), (by first | rfl | (simp; done) | (simp [*]; done)), H', ⟨Nat.le_refl _⟩, ⟨by first | exact Kd.R_nil _ _ _ _ _ | exact Kd.N_nil _ _ _ _ _ | exact Kd.V_nil _ _ _ _ _ | exact Kd.Q_nil _ _ _ _ _ | exact Kd.S_nil _ _ _ _ _⟩, ⟨by repeat (first | (with_reducible first | exact HB.out | apply below_alloc | apply pw_below_drewN | apply below_drew1) | exact HB.out)⟩⟩
  case round =>
    clear H'
    try clear p2
    obtain ⟨x5_1, x6_1, rfl, HA, HK1, HO_5, HB⟩ := hrel
    cases gk with
    | zero => exact absurd HA.out (by simp [annalsref03_First.l0])
    | succ k1 =>
      have H := HA.out
      clear HA
      simp only [annalsref03_First.l0] at H
      have HC3 := z_ H
      clear H
      go_upto_region 3 with (fail)
      go_cut [17] (fun v17 wc => ∃ (kq : Nat) (x17_2 : Bool), v17 = .bool x17_2 /\ Aside0 (annalsref03_First.j1 kq l0 a1 x5_1 x6_1 x17_2 = some r) /\ Aside0 (kq <= k1) /\ Aside0 (Kd.R (Kd.int .u8) 5 wc w.heap.size (fun _ => True) u5 x5_1) /\ Aside0 (Below w.heap.size w wc))
      case first =>
        have H := HC3.out
        clear HC3
        by_cases c4 : x6_1 < a1
        · rw [if_pos c4] at H
          have c4b0 : decide (x6_1 < a1) = true := decide_eq_true c4
          clear c4
          (first | rw [c4b0] | (simp only [i64_w, i32_w]; rw [c4b0]) | skip)
          have H' := z_ H
          clear H
          go_wp2
          go_meet
          case rel => exact ⟨_, (decide ((wrap64 (Int.tdiv x6_1 8)) < (l0.length : Int))), (by first | rfl | (simp; done) | (simp [*]; done)), H', ⟨by have := HK1.out; first | omega | exact Nat.le_refl _⟩, ⟨by (with_reducible repeat (first | apply Kd.R_alloc | apply Kd.R_drewN | apply Kd.R_drew)); exact HO_5.out⟩, ⟨by repeat (first | (with_reducible first | exact HB.out | apply below_alloc | apply pw_below_drewN | apply below_drew1) | exact HB.out)⟩⟩
        · rw [if_neg c4] at H
          have c4b0 : decide (x6_1 < a1) = false := decide_eq_false c4
          clear c4
          (first | rw [c4b0] | (simp only [i64_w, i32_w]; rw [c4b0]) | skip)
          have H' := z_ H
          clear H
          go_wp2
          go_meet
          case rel => exact ⟨_, (false), (by first | rfl | (simp; done) | (simp [*]; done)), H', ⟨by have := HK1.out; first | omega | exact Nat.le_refl _⟩, ⟨by (with_reducible repeat (first | apply Kd.R_alloc | apply Kd.R_drewN | apply Kd.R_drew)); exact HO_5.out⟩, ⟨by repeat (first | (with_reducible first | exact HB.out | apply below_alloc | apply pw_below_drewN | apply below_drew1) | exact HB.out)⟩⟩
      case rest =>
        clear HC3
        try clear p2
        try clear c4
        try clear c4b0
        try clear p2
        obtain ⟨kq, x17_2, rfl, HA, HJ2, HO_5, HB⟩ := hcut
        cases kq with
        | zero => exact absurd HA.out (by simp [annalsref03_First.j1])
        | succ kj2 =>
          have H := HA.out
          clear HA
          simp only [annalsref03_First.j1] at H
          by_cases c5 : x17_2 = true
          · subst c5
            have H1 : (if 0 <= (wrap64 (Int.tdiv x6_1 8)) then (if (wrap64 (Int.tdiv x6_1 8)) < (l0.length : Int) then (if (wrap64 (a1 - x6_1)) < 8 then (if 0 <= (wrap64 (8 - (wrap64 (a1 - x6_1)))) then (if x5_1.length < 140737488355328 then (annalsref03_First.l0 kj2 l0 a1 (x5_1 ++ [shl .u8 (shr .u8 (rd l0 (wrap64 (Int.tdiv x6_1 8))) (wrap64 (8 - (wrap64 (a1 - x6_1))))) (wrap64 (8 - (wrap64 (a1 - x6_1))))]) (wrap64 (x6_1 + 8))) else (none)) else (none)) else (if x5_1.length < 140737488355328 then (annalsref03_First.l0 kj2 l0 a1 (x5_1 ++ [rd l0 (wrap64 (Int.tdiv x6_1 8))]) (wrap64 (x6_1 + 8))) else (none))) else (none)) else (none)) = some r := by rw [if_pos rfl] at H; exact H
            clear H
            have H := H1
            clear H1
            obtain ⟨ji6, hji6⟩ : ∃ j_ : Int, (wrap64 (Int.tdiv x6_1 8)) = j_ := ⟨_, rfl⟩
            replace H : (if 0 <= (ji6) then (if (ji6) < (l0.length : Int) then (if (wrap64 (a1 - x6_1)) < 8 then (if 0 <= (wrap64 (8 - (wrap64 (a1 - x6_1)))) then (if x5_1.length < 140737488355328 then (annalsref03_First.l0 kj2 l0 a1 (x5_1 ++ [shl .u8 (shr .u8 (rd l0 (ji6)) (wrap64 (8 - (wrap64 (a1 - x6_1))))) (wrap64 (8 - (wrap64 (a1 - x6_1))))]) (wrap64 (x6_1 + 8))) else (none)) else (none)) else (if x5_1.length < 140737488355328 then (annalsref03_First.l0 kj2 l0 a1 (x5_1 ++ [rd l0 (ji6)]) (wrap64 (x6_1 + 8))) else (none))) else (none)) else (none)) = some r := by first | (rw [hji6] at H; exact H) | (simp only [hji6] at H ⊢; exact H)
            have hji6w : (IntKind.i64.wrap (Int.tdiv x6_1 8)) = ji6 := (i64_w _).trans hji6
            by_cases c7 : 0 <= (ji6)
            · rw [if_pos c7] at H
              have c7b0 : decide (0 <= (ji6)) = true := decide_eq_true c7
              clear c7
              by_cases c8 : (ji6) < (l0.length : Int)
              · rw [if_pos c8] at H
                have c8b0 : decide ((ji6) < (l0.length : Int)) = true := decide_eq_true c8
                clear c8
                by_cases c9 : (wrap64 (a1 - x6_1)) < 8
                · rw [if_pos c9] at H
                  have c9b0 : decide ((wrap64 (a1 - x6_1)) < 8) = true := decide_eq_true c9
                  clear c9
                  obtain ⟨ji10, hji10⟩ : ∃ j_ : Int, (wrap64 (8 - (wrap64 (a1 - x6_1)))) = j_ := ⟨_, rfl⟩
                  replace H : (if 0 <= (ji10) then (if x5_1.length < 140737488355328 then (annalsref03_First.l0 kj2 l0 a1 (x5_1 ++ [shl .u8 (shr .u8 (rd l0 (ji6)) (ji10)) (ji10)]) (wrap64 (x6_1 + 8))) else (none)) else (none)) = some r := by first | (rw [hji10] at H; exact H) | (simp only [hji10] at H ⊢; exact H)
                  have hji10w : (IntKind.i64.wrap (8 - (wrap64 (a1 - x6_1)))) = ji10 := (i64_w _).trans hji10
                  by_cases c11 : 0 <= (ji10)
                  · rw [if_pos c11] at H
                    have c11b0 := eq_true c11
                    have c11b1 : decide (0 <= (ji10)) = true := decide_eq_true c11
                    clear c11
                    obtain ⟨ji12, hji12⟩ : ∃ j_ : Int, (shr .u8 (rd l0 (ji6)) (ji10)) = j_ := ⟨_, rfl⟩
                    replace H : (if x5_1.length < 140737488355328 then (annalsref03_First.l0 kj2 l0 a1 (x5_1 ++ [shl .u8 (ji12) (ji10)]) (wrap64 (x6_1 + 8))) else (none)) = some r := by first | (rw [hji12] at H; exact H) | (simp only [hji12] at H ⊢; exact H)
                    have hji12_ : ((rd l0 (ji6)) / 2 ^ min (ji10).toNat 8) = ji12 := hji12
                    have hji12z : (ji10) <= 8 -> ((rd l0 (ji6)) / 2 ^ (ji10).toNat) = ji12 := shr_small hji12
                    have c13b0 := eq_true (of_decide_eq_true (by first | (with_reducible assumption) | assumption) : 0 <= (ji10))
                    obtain ⟨ji14, hji14⟩ : ∃ j_ : Int, (shl .u8 (ji12) (ji10)) = j_ := ⟨_, rfl⟩
                    replace H : (if x5_1.length < 140737488355328 then (annalsref03_First.l0 kj2 l0 a1 (x5_1 ++ [ji14]) (wrap64 (x6_1 + 8))) else (none)) = some r := by first | (rw [hji14] at H; exact H) | (simp only [hji14] at H ⊢; exact H)
                    have hji14_ : (IntKind.u8.wrap ((ji12) * 2 ^ min (ji10).toNat 8)) = ji14 := hji14
                    have hji14z : (ji10) <= 8 -> (IntKind.u8.wrap ((ji12) * 2 ^ (ji10).toNat)) = ji14 := shl_small hji14
                    by_cases c15 : x5_1.length < 140737488355328
                    · rw [if_pos c15] at H
                      have LMc15 := z_ c15
                      clear c15
                      obtain ⟨y228, hy228⟩ : ∃ y_ : List Int, y_ = (x5_1 ++ [ji14]) := ⟨_, rfl⟩
                      replace H : (annalsref03_First.l0 kj2 l0 a1 y228 (wrap64 (x6_1 + 8))) = some r := by first | (rw [hy228]; with_reducible exact H) | (have H2_ := (Option.bind_some _ _).symm.trans H; rw [hy228]; with_reducible exact H2_) | (have H2_ := (Option.bind_some _ _).symm.trans H; with_reducible exact H2_) | with_reducible exact H | (rw [hy228]; exact H) | exact H
                      have Ny228 := z_ hy228
                      clear hy228
                      have H' := z_ H
                      clear H
                      have p227 : 0 <= ((ji6) : Int) := of_decide_eq_true (by first | (with_reducible assumption) | assumption)
                      have q227 : (ji6) < (l0.length : Int) := of_decide_eq_true (by first | (with_reducible assumption) | assumption)
                      obtain ⟨ad227, e227, hx227_0⟩ := Kd.at_int HR0.out (ji6) p227 q227
                      cases e227
                      replace hx227_0 := (HB.out.cell (World.block_lt_of_cell? w _ hx227_0)).trans hx227_0
                      replace p227 := eq_true p227
                      replace q227 := eq_true q227
                      go_wp2_with (first | ((with_reducible refine gate_builtin (b := .append) (xs := #[.tmp 40, .tmp 42]) rfl ?_); (try (refine gate_guard (by rfl) ?_; dsimp only)); at_builtin; refine Kd.R_append (Kd.int .u8) (w0 := w) w.heap.size rfl (.tmp 40) (.tmp 42) 31 5 (.int .u8 0) 1 rfl Tryd.underlying31 info5 rfl (by decide) (by omega) u5 x5_1 ji14 [.int .u8 ji14] (fun _ => True) (fun _ => False) rfl rfl ?aP (fun _ hk => hk.elim) ?aF ?aO ?aB ?aS ?aL ?_; (case aP => exact rfl); (case aB => exact (by repeat (first | (with_reducible first | exact HB.out | apply below_alloc | apply pw_below_drewN | apply below_drew1) | exact HB.out))); (case aF => exact (fun _ _ => trivial)); (case aO => exact (by (with_reducible repeat (first | apply Kd.R_alloc | apply Kd.R_drewN | apply Kd.R_drew)); exact HO_5.out)); (case aS => exact (below_size (by repeat (first | (with_reducible first | exact HB.out | apply below_alloc | apply pw_below_drewN | apply below_drew1) | exact HB.out)))); (case aL => have := LMc15.out; omega); intro v229 w16 ho hb hg hat; rw [<- Ny228.out] at ho; have n0_ := z_ (hb); have n1_ := z_ (ho); clear HB; clear HO_5; have HB := n0_; have HO230 := n1_; clear n0_ n1_; clear ho hb hg hat))
                      go_roundg kj2
                      case measure => have := HK1.out; have := HJ2.out; omega
                      case rel => exact ⟨(y228), (wrap64 (x6_1 + 8)), (by first | rfl | (simp; done) | (simp [*]; done)), H', ⟨by have := HK1.out; have := HJ2.out; omega⟩, ⟨by (with_reducible repeat (first | apply Kd.R_alloc | apply Kd.R_drewN | apply Kd.R_drew)); exact HO230.out⟩, ⟨by repeat (first | (with_reducible first | exact HB.out | apply below_alloc | apply pw_below_drewN | apply below_drew1) | exact HB.out)⟩⟩
                    · rw [if_neg c15] at H
                      exact absurd H (by simp)
                  · rw [if_neg c11] at H
                    exact absurd H (by simp)
                · rw [if_neg c9] at H
                  have c9b0 : decide ((wrap64 (a1 - x6_1)) < 8) = false := decide_eq_false c9
                  clear c9
                  by_cases c17 : x5_1.length < 140737488355328
                  · rw [if_pos c17] at H
                    have LMc17 := z_ c17
                    clear c17
                    obtain ⟨y231, hy231⟩ : ∃ y_ : List Int, y_ = (x5_1 ++ [rd l0 (ji6)]) := ⟨_, rfl⟩
                    replace H : (annalsref03_First.l0 kj2 l0 a1 y231 (wrap64 (x6_1 + 8))) = some r := by first | (rw [hy231]; with_reducible exact H) | (have H2_ := (Option.bind_some _ _).symm.trans H; rw [hy231]; with_reducible exact H2_) | (have H2_ := (Option.bind_some _ _).symm.trans H; with_reducible exact H2_) | with_reducible exact H | (rw [hy231]; exact H) | exact H
                    have Ny231 := z_ hy231
                    clear hy231
                    have H' := z_ H
                    clear H
                    have p227 : 0 <= ((ji6) : Int) := of_decide_eq_true (by first | (with_reducible assumption) | assumption)
                    have q227 : (ji6) < (l0.length : Int) := of_decide_eq_true (by first | (with_reducible assumption) | assumption)
                    obtain ⟨ad227, e227, hx227_0⟩ := Kd.at_int HR0.out (ji6) p227 q227
                    cases e227
                    replace hx227_0 := (HB.out.cell (World.block_lt_of_cell? w _ hx227_0)).trans hx227_0
                    replace p227 := eq_true p227
                    replace q227 := eq_true q227
                    go_wp2_with (first | ((with_reducible refine gate_builtin (b := .append) (xs := #[.tmp 40, .tmp 42]) rfl ?_); (try (refine gate_guard (by rfl) ?_; dsimp only)); at_builtin; refine Kd.R_append (Kd.int .u8) (w0 := w) w.heap.size rfl (.tmp 40) (.tmp 42) 31 5 (.int .u8 0) 1 rfl Tryd.underlying31 info5 rfl (by decide) (by omega) u5 x5_1 (rd l0 (ji6)) [.int .u8 (rd l0 (ji6))] (fun _ => True) (fun _ => False) rfl rfl ?aP (fun _ hk => hk.elim) ?aF ?aO ?aB ?aS ?aL ?_; (case aP => exact rfl); (case aB => exact (by repeat (first | (with_reducible first | exact HB.out | apply below_alloc | apply pw_below_drewN | apply below_drew1) | exact HB.out))); (case aF => exact (fun _ _ => trivial)); (case aO => exact (by (with_reducible repeat (first | apply Kd.R_alloc | apply Kd.R_drewN | apply Kd.R_drew)); exact HO_5.out)); (case aS => exact (below_size (by repeat (first | (with_reducible first | exact HB.out | apply below_alloc | apply pw_below_drewN | apply below_drew1) | exact HB.out)))); (case aL => have := LMc17.out; omega); intro v232 w18 ho hb hg hat; rw [<- Ny231.out] at ho; have n0_ := z_ (hb); have n1_ := z_ (ho); clear HB; clear HO_5; have HB := n0_; have HO233 := n1_; clear n0_ n1_; clear ho hb hg hat))
                    go_roundg kj2
                    case measure => have := HK1.out; have := HJ2.out; omega
                    case rel => exact ⟨(y231), (wrap64 (x6_1 + 8)), (by first | rfl | (simp; done) | (simp [*]; done)), H', ⟨by have := HK1.out; have := HJ2.out; omega⟩, ⟨by (with_reducible repeat (first | apply Kd.R_alloc | apply Kd.R_drewN | apply Kd.R_drew)); exact HO233.out⟩, ⟨by repeat (first | (with_reducible first | exact HB.out | apply below_alloc | apply pw_below_drewN | apply below_drew1) | exact HB.out)⟩⟩
                  · rw [if_neg c17] at H
                    exact absurd H (by simp)
              · rw [if_neg c8] at H
                exact absurd H (by simp)
            · rw [if_neg c7] at H
              exact absurd H (by simp)
          · replace c5 := Bool.eq_false_iff.mpr c5
            subst c5
            have H1 : (some x5_1) = some r := by rw [if_neg (show ¬ (false = true) by decide)] at H; exact H
            clear H
            have H := H1
            clear H1
            obtain rfl := Option.some.inj H
            go_wp2
            go_ret
            exact ⟨_, by first | rfl | (simp [errW_none, errW_some] <;> rfl) | (simp [*, errW_none, errW_some] <;> rfl), by (with_reducible repeat (first | apply Kd.R_alloc | apply Kd.R_drewN | apply Kd.R_drew)); exact HO_5.out, by repeat (first | (with_reducible first | exact HB.out | apply below_alloc | apply pw_below_drewN | apply below_drew1) | exact HB.out)⟩
end Go.Proofs.YtdeneoknjeegbaaDoor.P
end
section
namespace Go.Proofs.YtdeneoknjeegbaaDoor.P
open Go.RowKit YtdeneoknjeegbaaDoorW.PrintWords YtdeneoknjeegbaaDoorW.PrintLast YtdeneoknjeegbaaDoorW.PrintMore
theorem wrap64_id (x : Int) (h : -9223372036854775808 <= x /\ x <= 9223372036854775807) : wrap64 x = x := by unfold wrap64; omega
def num8 (n : Int) : List Int := [n / 72057594037927936 % 256, n / 281474976710656 % 256, n / 1099511627776 % 256, n / 4294967296 % 256, n / 16777216 % 256, n / 65536 % 256, n / 256 % 256, n % 256]
theorem num8_length (n : Int) : (num8 n).length = 8 := rfl
theorem num8_ok (n : Int) : BytesOk (num8 n) := by
  intro x hx
  simp only [num8, List.mem_cons, List.not_mem_nil, or_false] at hx
  rcases hx with h | h | h | h | h | h | h | h <;> omega
theorem div256 (n : Int) (a b : Int) (ha : 0 <= a) (h : a * 256 = b) : n / a / 256 = n / b := by
  rw [Int.ediv_ediv_of_nonneg ha, h]
theorem numBytes_eq (n : Int) : numBytes n = num8 n := by
  have e (i : Nat) (x : Int) (ys : List Int) : numRun (i + 1) x ys = numRun i (x / 256) (ys.set i (x % 256)) := rfl
  unfold numBytes
  rw [e 7, e 6, e 5, e 4, e 3, e 2, e 1, e 0]
  rw [div256 n 256 65536 (by decide) (by decide), div256 n 65536 16777216 (by decide) (by decide), div256 n 16777216 4294967296 (by decide) (by decide), div256 n 4294967296 1099511627776 (by decide) (by decide), div256 n 1099511627776 281474976710656 (by decide) (by decide), div256 n 281474976710656 72057594037927936 (by decide) (by decide)]
  rfl
theorem shr_u64 (n : Int) (i : Int) (d : Int) (h0 : 0 <= i) (h1 : i <= 56) (hd : (2 : Int) ^ i.toNat = d) : shr .u64 (IntKind.u64.wrap n) i = (n % 18446744073709551616) / d := by
  unfold shr
  rw [IntKind.wrap_u64, Nat.min_eq_left (by simp only [IntKind.bits]; omega), hd]
theorem rnum_step (k : Nat) (n : Int) (acc : List Int) (i d : Int) (h0 : 0 <= i) (h1 : i <= 56) (hd : (2 : Int) ^ i.toNat = d) (ha : acc.length < 100) :
    annalsref02_Number.l0 (k + 1) n acc i = annalsref02_Number.l0 k n (acc ++ [(n % 18446744073709551616) / d % 256]) (i - 8) := by
  simp only [annalsref02_Number.l0]
  rw [if_pos (by omega), if_pos (by omega), if_pos (by omega), shr_u64 n i d h0 h1 hd, wrap64_id _ (by omega)]
theorem rnum_f (n : Int) (k : Nat) (hk : 9 <= k) : annalsref02_Number.f k n = some (num8 n) := by
  obtain ⟨k, rfl⟩ : ∃ m, k = m + 9 := ⟨k - 9, by omega⟩
  unfold annalsref02_Number.f
  rw [rnum_step (k + 8) n _ 56 72057594037927936 (by omega) (by omega) (by decide) (by simp), rnum_step (k + 7) n _ (56 - 8) 281474976710656 (by omega) (by omega) (by decide) (by simp), rnum_step (k + 6) n _ (56 - 8 - 8) 1099511627776 (by omega) (by omega) (by decide) (by simp), rnum_step (k + 5) n _ (56 - 8 - 8 - 8) 4294967296 (by omega) (by omega) (by decide) (by simp), rnum_step (k + 4) n _ (56 - 8 - 8 - 8 - 8) 16777216 (by omega) (by omega) (by decide) (by simp), rnum_step (k + 3) n _ (56 - 8 - 8 - 8 - 8 - 8) 65536 (by omega) (by omega) (by decide) (by simp), rnum_step (k + 2) n _ (56 - 8 - 8 - 8 - 8 - 8 - 8) 256 (by omega) (by omega) (by decide) (by simp), rnum_step (k + 1) n _ (56 - 8 - 8 - 8 - 8 - 8 - 8 - 8) 1 (by omega) (by omega) (by decide) (by simp)]
  have hend : annalsref02_Number.l0 (k + 1) n (([] : List Int) ++ [n % 18446744073709551616 / 72057594037927936 % 256] ++ [n % 18446744073709551616 / 281474976710656 % 256] ++ [n % 18446744073709551616 / 1099511627776 % 256] ++ [n % 18446744073709551616 / 4294967296 % 256] ++ [n % 18446744073709551616 / 16777216 % 256] ++ [n % 18446744073709551616 / 65536 % 256] ++ [n % 18446744073709551616 / 256 % 256] ++ [n % 18446744073709551616 / 1 % 256]) (56 - 8 - 8 - 8 - 8 - 8 - 8 - 8 - 8) = some (([] : List Int) ++ [n % 18446744073709551616 / 72057594037927936 % 256] ++ [n % 18446744073709551616 / 281474976710656 % 256] ++ [n % 18446744073709551616 / 1099511627776 % 256] ++ [n % 18446744073709551616 / 4294967296 % 256] ++ [n % 18446744073709551616 / 16777216 % 256] ++ [n % 18446744073709551616 / 65536 % 256] ++ [n % 18446744073709551616 / 256 % 256] ++ [n % 18446744073709551616 / 1 % 256]) := by
    simp only [annalsref02_Number.l0]
    rw [if_neg (by omega)]
  rw [hend]
  simp only [List.nil_append, List.cons_append, num8]
  have m1 : n % 18446744073709551616 / 72057594037927936 % 256 = n / 72057594037927936 % 256 := by omega
  have m2 : n % 18446744073709551616 / 281474976710656 % 256 = n / 281474976710656 % 256 := by omega
  have m3 : n % 18446744073709551616 / 1099511627776 % 256 = n / 1099511627776 % 256 := by omega
  have m4 : n % 18446744073709551616 / 4294967296 % 256 = n / 4294967296 % 256 := by omega
  have m5 : n % 18446744073709551616 / 16777216 % 256 = n / 16777216 % 256 := by omega
  have m6 : n % 18446744073709551616 / 65536 % 256 = n / 65536 % 256 := by omega
  have m7 : n % 18446744073709551616 / 256 % 256 = n / 256 % 256 := by omega
  have m8 : n % 18446744073709551616 / 1 % 256 = n % 256 := by omega
  rw [m1, m2, m3, m4, m5, m6, m7, m8]
def partB (p : List Int) : List Int := [(p.length : Int) / 256 % 256, (p.length : Int) % 256] ++ p
def textB (tag : Int) (parts : List (List Int)) : List Int := [tag] ++ parts.flatMap partB
def hashB (size tag : Int) (parts : List (List Int)) : List Int := if parts.any isLong = true then [] else (shaSum (textB tag parts)).take (mn (mx size 0) 32).toNat
theorem rd_L1_at (xs : List (List Int)) (i : Nat) (h : i < xs.length) : rd_L1 xs (i : Int) = xs[i] := by
  unfold rd_L1
  rw [Int.toNat_natCast, List.getD_eq_getElem?_getD, List.getElem?_eq_getElem h]
  rfl
theorem partB_length (p : List Int) : (partB p).length = p.length + 2 := by
  unfold partB
  simp
theorem flat_len (parts : List (List Int)) (h : ∀ p ∈ parts, p.length <= 65535) : (parts.flatMap partB).length <= 65537 * parts.length := by
  induction parts with
  | nil => simp
  | cons p ps ih =>
    have := ih (fun q hq => h q (List.mem_cons_of_mem _ hq))
    have h1 := h p List.mem_cons_self
    rw [List.flatMap_cons, List.length_append, List.length_cons, partB_length]
    omega
theorem not_long {parts : List (List Int)} (h : parts.any isLong = false) : ∀ p ∈ parts, p.length <= 65535 := by
  intro p hp
  have := List.any_eq_false.1 h p hp
  unfold isLong at this
  simp at this
  omega
theorem text_l0 (parts : List (List Int)) (hl : ∀ p ∈ parts, p.length <= 65535) (hn : parts.length <= 100000) : ∀ (d i k : Nat) (acc : List Int), i + d = parts.length -> d < k -> acc.length <= 65537 * i + 1 ->
    texts_Text.l0 k acc parts (parts.length : Int) (i : Int) = some (acc ++ (parts.drop i).flatMap partB, 0) := by
  intro d
  induction d with
  | zero =>
    intro i k acc hi hk ha
    obtain ⟨k, rfl⟩ : ∃ m, k = m + 1 := ⟨k - 1, by omega⟩
    simp only [texts_Text.l0]
    rw [if_neg (by omega), List.drop_of_length_le (by omega)]
    simp
  | succ d ih =>
    intro i k acc hi hk ha
    obtain ⟨k, rfl⟩ : ∃ m, k = m + 1 := ⟨k - 1, by omega⟩
    have hlt : i < parts.length := by omega
    have h1 := hl parts[i] (List.getElem_mem hlt)
    simp only [texts_Text.l0]
    rw [if_pos (by omega), if_pos (by omega), if_pos (by omega), rd_L1_at _ _ hlt]
    simp only [Option.bind_some]
    rw [if_pos (by simp; omega), if_pos (by simp; omega), wrap64_id _ (by omega)]
    have := ih (i + 1) k (acc ++ [(parts[i].length : Int) / 256 % 256, (parts[i].length : Int) % 256] ++ parts[i]) (by omega) (by omega) (by simp; omega)
    rw [show ((i : Int) + 1) = ((i + 1 : Nat) : Int) by omega, this, List.drop_eq_getElem_cons hlt, List.flatMap_cons]
    unfold partB
    simp
theorem text_f (tag : Int) (parts : List (List Int)) (ht : 0 <= tag /\ tag <= 255) (hn : parts.length <= 100000) (k : Nat) (hk : parts.length < k) :
    texts_Text.f k tag parts = some (if parts.any isLong = true then ([], 4) else (textB tag parts, 0)) := by
  unfold texts_Text.f
  rw [if_pos (by omega)]
  unfold slices_ContainsFunc_byte_byte.f
  simp only [Option.bind_some]
  cases h : parts.any isLong
  · rw [if_neg (by simp), if_neg (by simp)]
    have := text_l0 parts (not_long h) hn parts.length 0 k [tag % 256] (by omega) hk (by simp)
    rw [show ((0 : Nat) : Int) = 0 from rfl] at this
    rw [this, show tag % 256 = tag by omega]
    rfl
  · rw [if_pos rfl, if_pos rfl]
theorem textB_length (tag : Int) (parts : List (List Int)) (h : parts.any isLong = false) : (textB tag parts).length <= 65537 * parts.length + 1 := by
  have := flat_len parts (not_long h)
  unfold textB
  simp only [List.length_append, List.length_cons, List.length_nil]
  omega
theorem hash_f (size tag : Int) (parts : List (List Int)) (ht : 0 <= tag /\ tag <= 255) (hn : parts.length <= 100000) (k : Nat) (hk : parts.length < k) :
    texts_Hash.f k size tag parts = some (hashB size tag parts) := by
  unfold texts_Hash.f hashB
  rw [text_f tag parts ht hn k hk]
  simp only [Option.bind_some]
  cases h : parts.any isLong
  · have hl := textB_length tag parts h
    simp only [Bool.false_eq_true, if_false, if_true]
    unfold sha_Cut.f
    rw [if_pos (by show (textB tag parts).length <= _; omega)]
    rfl
  · simp only [if_true]
    rw [if_neg (by decide)]
theorem rtext_l0 (parts : List (List Int)) (hn : parts.length <= 100000) : ∀ (d i k : Nat) (acc : List Int), i + d = parts.length -> d < k -> acc.length <= 65537 * i + 1 ->
    annalsref02_Text.l0 k acc parts (parts.length : Int) (i : Int) = some (if (parts.drop i).any isLong = true then ([], 4) else (acc ++ (parts.drop i).flatMap partB, 0)) := by
  intro d
  induction d with
  | zero =>
    intro i k acc hi hk ha
    obtain ⟨k, rfl⟩ : ∃ m, k = m + 1 := ⟨k - 1, by omega⟩
    simp only [annalsref02_Text.l0]
    rw [if_neg (by omega), List.drop_of_length_le (by omega)]
    simp
  | succ d ih =>
    intro i k acc hi hk ha
    obtain ⟨k, rfl⟩ : ∃ m, k = m + 1 := ⟨k - 1, by omega⟩
    have hlt : i < parts.length := by omega
    simp only [annalsref02_Text.l0]
    rw [if_pos (by omega), if_pos (by omega), if_pos (by omega), rd_L1_at _ _ hlt, List.drop_eq_getElem_cons hlt, List.any_cons]
    by_cases hL : (parts[i].length : Int) > 65535
    · have h1 : isLong parts[i] = true := decide_eq_true hL
      rw [if_pos hL, h1, if_pos (by simp)]
    · have h1 : isLong parts[i] = false := decide_eq_false hL
      rw [if_neg hL, h1, Bool.false_or]
      simp only [Option.bind_some]
      rw [if_pos (by simp; omega), if_pos (by simp; omega), wrap64_id _ (by omega)]
      have := ih (i + 1) k (acc ++ [(parts[i].length : Int) / 256 % 256, (parts[i].length : Int) % 256] ++ parts[i]) (by omega) (by omega) (by simp; omega)
      rw [show ((i : Int) + 1) = ((i + 1 : Nat) : Int) by omega, this, List.flatMap_cons]
      unfold partB
      simp
theorem rtext_f (tag : Int) (parts : List (List Int)) (ht : 0 <= tag /\ tag <= 255) (hn : parts.length <= 100000) (k : Nat) (hk : parts.length + 1 < k) :
    annalsref02_Text.f k tag parts = some (if parts.any isLong = true then ([], 4) else (textB tag parts, 0)) := by
  obtain ⟨k, rfl⟩ : ∃ m, k = m + 1 := ⟨k - 1, by omega⟩
  unfold annalsref02_Text.f
  rw [if_neg (by omega), decide_eq_false (by omega)]
  simp only [annalsref02_Text.j0]
  rw [if_neg (by simp)]
  have := rtext_l0 parts hn parts.length 0 k [tag % 256] (by omega) (by omega) (by simp)
  rw [show ((0 : Nat) : Int) = 0 from rfl] at this
  rw [this, show tag % 256 = tag by omega, List.drop_zero]
  rfl
def PartsOk (parts : List (List Int)) : Prop := ∀ p ∈ parts, BytesOk p
theorem textB_ok (tag : Int) (parts : List (List Int)) (ht : 0 <= tag /\ tag <= 255) (hp : PartsOk parts) : BytesOk (textB tag parts) := by
  intro x hx
  unfold textB at hx
  rcases List.mem_append.1 hx with h | h
  · obtain rfl := List.mem_singleton.1 h
    exact ht
  · obtain ⟨p, hpm, h⟩ := List.mem_flatMap.1 h
    unfold partB at h
    rcases List.mem_append.1 h with h | h
    · simp only [List.mem_cons, List.not_mem_nil, or_false] at h
      rcases h with h | h <;> omega
    · exact hp p hpm x h
theorem cut_eq (a : Int) : mx 0 (mn a 32) = mn (mx a 0) 32 := by
  unfold mx mn
  split <;> split <;> (try split) <;> (try split) <;> omega
theorem refSum_length (bs : List Int) : (refSum bs).length = 32 := by
  unfold refSum
  rw [rout_length]
theorem rhash_f (size tag : Int) (parts : List (List Int)) (ht : 0 <= tag /\ tag <= 255) (hp : PartsOk parts) (hn : parts.length <= 100000) (k : Nat) (hk : parts.length + 1 < k) :
    annalsref02_Hash.f k size tag parts = some (hashB size tag parts) := by
  unfold annalsref02_Hash.f hashB
  rw [rtext_f tag parts ht hn k hk]
  simp only [Option.bind_some]
  cases h : parts.any isLong
  · have hl := textB_length tag parts h
    simp only [Bool.false_eq_true, if_false, if_true]
    unfold annalsref01_Cut.f annalsref01_Sum.f
    rw [if_pos (by show (textB tag parts).length <= _; omega)]
    simp only [Option.bind_some]
    have h0 : 0 <= mx 0 (mn size 32) /\ mx 0 (mn size 32) <= 32 := by
      unfold mx mn
      split <;> (try split) <;> (try split) <;> omega
    rw [if_pos h0.1, if_pos (by rw [refSum_length]; exact h0.2), cut_eq, <- sum_eq _ (textB_ok tag parts ht hp)]
    rfl
  · simp only [if_true]
    rw [if_neg (by decide)]
theorem cut_byte : ∀ s : Fin 8, ∀ x : Fin 256, Go.bits .and .u8 (x.val : Int) (255 * 2 ^ s.val % 256) = (x.val : Int) / 2 ^ s.val * 2 ^ s.val % 256 := by decide +kernel
theorem shl_shr_u8 (x s : Int) (h0 : 0 <= s) (h1 : s < 8) (hx : 0 <= x /\ x <= 255) : shl .u8 (shr .u8 x s) s = Go.bits .and .u8 x (255 * 2 ^ s.toNat % 256) := by
  have := cut_byte ⟨s.toNat, by omega⟩ ⟨x.toNat, by omega⟩
  simp only [Int.toNat_of_nonneg hx.1] at this
  rw [this]
  unfold shl shr
  rw [Nat.min_eq_left (by simp only [IntKind.bits]; omega)]
  rw [IntKind.wrap_u8]
theorem take_set_last (l : List Int) (m : Nat) (h : m < l.length) (y : Int) : (l.take (m + 1)).set m y = l.take m ++ [y] := by
  rw [List.take_succ_eq_append_getElem h, List.set_append_right _ _ (by rw [List.length_take]; omega), List.length_take, Nat.min_eq_left (by omega), Nat.sub_self]
  rfl
theorem rfirst_exit (k : Nat) (l : List Int) (a : Int) (acc : List Int) (i : Int) (h : a <= i \/ 8 * (l.length : Int) <= i) (h0 : 0 <= i) (h1 : i <= 9223372036854775807) (hk : 2 <= k) : annalsref03_First.l0 k l a acc i = some acc := by
  obtain ⟨k, rfl⟩ : ∃ m, k = m + 2 := ⟨k - 2, by omega⟩
  simp only [annalsref03_First.l0]
  by_cases hi : i < a
  · rw [if_pos hi]
    have e : wrap64 (Int.tdiv i 8) = i / 8 := by rw [Int.tdiv_eq_ediv_of_nonneg h0]; exact wrap64_id _ (by omega)
    simp only [annalsref03_First.j1]
    rw [e, decide_eq_false (by omega), if_neg (by simp)]
  · rw [if_neg hi]
    simp only [annalsref03_First.j1]
    rw [if_neg (by simp)]
theorem rfirst_l0 (l : List Int) (hb : BytesOk l) (a : Int) (hl : l.length < 140737488355328) (ha : a <= 9223372036854775807) : ∀ (d m k : Nat), m + d = l.length -> 2 * d + 2 <= k -> (m = 0 \/ 8 * (m : Int) <= a) ->
    annalsref03_First.l0 k l a (l.take m) (8 * (m : Int)) = some (firstB l a) := by
  intro d
  induction d with
  | zero =>
    intro m k hm hk hma
    rw [rfirst_exit k l a _ _ (.inr (by omega)) (by omega) (by omega) (by omega), List.take_of_length_le (by omega)]
    unfold firstB
    by_cases h : 8 * (l.length : Int) <= a
    · rw [if_pos h]
    · have h0 : l.length = 0 := by omega
      obtain rfl := List.eq_nil_of_length_eq_zero h0
      rw [if_neg h]
      split
      · rfl
      · rename_i h2
        exfalso
        simp at h
        omega
  | succ d ih =>
    intro m k hm hk hma
    have hlt : m < l.length := by omega
    by_cases hi : 8 * (m : Int) < a
    · obtain ⟨k, rfl⟩ : ∃ j, k = j + 2 := ⟨k - 2, by omega⟩
      have e : wrap64 (Int.tdiv (8 * (m : Int)) 8) = (m : Int) := by rw [Int.tdiv_eq_ediv_of_nonneg (by omega), wrap64_id _ (by omega)]; omega
      have e2 : wrap64 (a - 8 * (m : Int)) = a - 8 * (m : Int) := wrap64_id _ (by omega)
      have e4 : wrap64 (8 * (m : Int) + 8) = 8 * ((m + 1 : Nat) : Int) := by rw [wrap64_id _ (by omega)]; omega
      have hrd : rd l (m : Int) = l[m] := by unfold rd; rw [Int.toNat_natCast, List.getD_eq_getElem?_getD, List.getElem?_eq_getElem hlt]; rfl
      simp only [annalsref03_First.l0, annalsref03_First.j1]
      rw [if_pos hi, e, decide_eq_true (by omega), if_pos rfl, if_pos (by omega), if_pos (by omega), e2, e4, hrd, List.length_take, Nat.min_eq_left (by omega)]
      by_cases h8 : a - 8 * (m : Int) < 8
      · have e3 : wrap64 (8 - (a - 8 * (m : Int))) = 8 - (a - 8 * (m : Int)) := wrap64_id _ (by omega)
        rw [if_pos h8, e3, if_pos (by omega), if_pos (by omega), shl_shr_u8 _ _ (by omega) (by omega) (hb _ (List.getElem_mem hlt)), rfirst_exit k l a _ _ (.inl (by omega)) (by omega) (by omega) (by omega)]
        unfold firstB
        rw [if_neg (by omega), if_neg (by omega)]
        unfold firstBits
        have hbb : bitBytes a.toNat = m + 1 := by unfold bitBytes; omega
        rw [if_neg (by omega), hbb, show m + 1 - 1 = m from rfl, take_set_last l m hlt]
        unfold cutByte
        have e5 : ((a.toNat % 8 : Nat) : Int) = a - 8 * (m : Int) := by omega
        have e6 : (l.take (m + 1)).getD m 0 = l[m] := by
          rw [List.getD_eq_getElem?_getD, List.getElem?_take, if_pos (by omega), List.getElem?_eq_getElem hlt]
          rfl
        rw [e5, e6]
      · rw [if_neg h8, if_pos (by omega), <- List.take_succ_eq_append_getElem hlt]
        exact ih (m + 1) k (by omega) (by omega) (.inr (by omega))
    · rw [rfirst_exit k l a _ _ (.inl (by omega)) (by omega) (by omega) (by omega)]
      unfold firstB
      rw [if_neg (by omega)]
      by_cases h1 : a < 1
      · have hm0 : m = 0 := by omega
        rw [if_pos h1, hm0]
        rfl
      · rw [if_neg h1]
        unfold firstBits
        have hbb : bitBytes a.toNat = m := by unfold bitBytes; omega
        rw [if_pos (by omega), hbb]
theorem rfirst_f (l : List Int) (hb : BytesOk l) (a : Int) (hl : l.length < 140737488355328) (ha : a <= 9223372036854775807) (k : Nat) (hk : 2 * l.length + 2 <= k) : annalsref03_First.f k l a = some (firstB l a) := by
  unfold annalsref03_First.f
  have := rfirst_l0 l hb a hl ha l.length 0 k (by omega) hk (.inl rfl)
  exact this
theorem firstB_length (l : List Int) (a : Int) : (firstB l a).length <= l.length := by
  unfold firstB firstBits
  split
  · omega
  · split
    · simp
    · split
      · rw [List.length_take]; omega
      · rw [List.length_set, List.length_take]; omega
theorem bits_u8_range (op : BinOp) (x y : Int) : 0 <= Go.bits op .u8 x y /\ Go.bits op .u8 x y <= 255 := by
  unfold Go.bits
  rw [IntKind.wrap_u8]
  omega
theorem firstB_ok (l : List Int) (hb : BytesOk l) (a : Int) : BytesOk (firstB l a) := by
  unfold firstB firstBits
  have ht (m : Nat) : BytesOk (l.take m) := fun x hx => hb x (List.mem_of_mem_take hx)
  split
  · exact hb
  · split
    · intro x hx; cases hx
    · split
      · exact ht _
      · intro x hx
        rcases List.mem_or_eq_of_mem_set hx with h | rfl
        · exact ht _ x h
        · unfold cutByte
          exact bits_u8_range _ _ _
theorem at_raw {w : World} {p : Nat} {size room : Int} {g n c : Nat} {vf : Value} (h : ABlk w p size room (.slice (some ⟨g, 0, none⟩) n c) vf) (hs : size ≠ 0) (hn : n <= 9223372036854775807) (k : Nat) (hk : k < n) (hc : w.cell? ⟨g, k * 11, none⟩ = some (.bool true)) :
    Calls Tryd.prog 51 #[.pointer (some ⟨p, 0, none⟩), .int .i64 (k : Int)] w fun e w' => e = .returned (.pointer (some ⟨g, k * 11 + 1, none⟩)) /\ w = w' := by
  have HBk := z_ h
  have HS := z_ hs
  have hk2 : decide (n <= k) = false := decide_eq_false (by omega)
  have hk3 : (k : Int) < (n : Int) := by omega
  have hk4 : decide ((k : Int) < 0) = false := decide_eq_false (by omega)
  have hk5 : 0 <= (k : Int) := by omega
  clear h hs
  go_enter Tryd.func51, Tryd.ntmps51
  go_wp2_with fail
  refine (none_calls HBk.out HS.out).mono ?_
  rintro e w' ⟨rfl, rfl⟩
  obtain ⟨c0, c1, c2, c3⟩ := HBk.out.cells
  go_wp2_with fail
  go_ret
  exact ⟨rfl, rfl⟩
def annalslaw09_awake.f : Option Bool := some true
end Go.Proofs.YtdeneoknjeegbaaDoor.P
end
section
namespace Go.Proofs.YtdeneoknjeegbaaDoor.P
open Go.RowKit YtdeneoknjeegbaaDoorW.PrintWords YtdeneoknjeegbaaDoorW.PrintLast YtdeneoknjeegbaaDoorW.PrintMore
attribute [local go_sem] max2_int min2_int max_two min_two max_three min_three max_four min_four
def arena_ForkHash.f (k : Nat) (a0 : Int) (a1 : Int) (l2 : List Int) (a3 : Int) (l4 : List Int) (l5 : List Int) : Option (List Int) := (texts_Number.f a1).bind fun t212 => ((bits_First.f l2 a1).bind fun t215 => ((texts_Number.f a3).bind fun t218 => ((texts_Hash.f k a0 2 (([t212, t215, t218, l4, l5] : List (List Int)))).bind fun t224 => (some t224))))
theorem arena_ForkHash.mono : ∀ a0 a1 a2 a3 a4 a5 k, LeO (arena_ForkHash.f k a0 a1 a2 a3 a4 a5) (arena_ForkHash.f (k + 1) a0 a1 a2 a3 a4 a5) := by
  intro a0 a1 a2 a3 a4 a5 k
  unfold arena_ForkHash.f
  repeat' first
      | (with_reducible exact texts_Hash.mono _ _ _ _)
      | (with_reducible exact LeO.refl _)
      | (with_reducible exact LeO.none _)
      | (with_reducible refine LeO.ite ?_ ?_)
      | (with_reducible refine LeO.bind ?_ (fun _ => ?_))
      | exact texts_Hash.mono _ _ _ _
      | exact LeO.none _
      | refine LeO.ite ?_ ?_
      | refine LeO.bind ?_ (fun _ => ?_)
set_option maxHeartbeats 8000000 in
set_option maxRecDepth 100000 in
theorem arena_ForkHash.calls (k : Nat) (a0 : Int) (a1 : Int) (A2 : Option Addr) (c2 : Nat) (l2 : List Int) (a3 : Int) (P4_ : Nat -> Prop) (A4 : Option Addr) (c4 : Nat) (l4 : List Int) (P5_ : Nat -> Prop) (A5 : Option Addr) (c5 : Nat) (l5 : List Int) (r : List Int) (w : World) (hr2 : Kd.C (Kd.int .u8) w A2 l2.length l2) (hc2 : l2.length <= c2) (hs4 : Kd.V (Kd.int .u8) 5 w w.heap.size (fun k_ => P4_ k_) (.slice A4 l4.length c4) l4) (hs5 : Kd.V (Kd.int .u8) 5 w w.heap.size (fun k_ => P5_ k_) (.slice A5 l5.length c5) l5) (hGS : GlobS w) (h : arena_ForkHash.f k a0 a1 l2 a3 l4 l5 = some r) :
    Calls Tryd.prog 78 #[.int .i64 a0, .int .i64 a1, .slice A2 l2.length c2, .int .i64 a3, .slice A4 l4.length c4, .slice A5 l5.length c5] w fun e w' => ∃ v0_ : Value, e = .returned (v0_) /\ Kd.V (Kd.int .u8) 5 w' w.heap.size (fun k_ => ((P4_ k_ \/ P5_ k_) \/ w.heap.size <= k_)) v0_ r /\ Below w.heap.size w w' := by
  have HGS := z_ hGS
  clear hGS
  have HR2 := z_ hr2
  have HC2 := z_ hc2
  clear hr2 hc2
  have HO4 := z_ (show Kd.V (Kd.int .u8) 5 w w.heap.size (fun k_ => ((P4_ k_ \/ P5_ k_) \/ w.heap.size <= k_)) (.slice A4 l4.length c4) l4 from Kd.V_mono hs4 (fun k_ hk => .inl (.inl hk)))
  have HO5 := z_ (show Kd.V (Kd.int .u8) 5 w w.heap.size (fun k_ => ((P4_ k_ \/ P5_ k_) \/ w.heap.size <= k_)) (.slice A5 l5.length c5) l5 from Kd.V_mono hs5 (fun k_ hk => .inl (.inr hk)))
  have HB := z_ (Below.refl w.heap.size w)
  have H : ((texts_Number.f a1).bind fun t212 => ((bits_First.f l2 a1).bind fun t215 => ((texts_Number.f a3).bind fun t218 => ((texts_Hash.f k a0 2 (([t212, t215, t218, l4, l5] : List (List Int)))).bind fun t224 => (some t224))))) = some r := h
  clear h
  replace H := Option.bind_eq_some_iff.mp H
  obtain ⟨t212, A70, H⟩ := H
  replace H : ((bits_First.f l2 a1).bind fun t215 => ((texts_Number.f a3).bind fun t218 => ((texts_Hash.f k a0 2 (([t212, t215, t218, l4, l5] : List (List Int)))).bind fun t224 => (some t224)))) = some r := H
  have A7 := z_ A70
  clear A70
  replace H := Option.bind_eq_some_iff.mp H
  obtain ⟨t215, A80, H⟩ := H
  replace H : ((texts_Number.f a3).bind fun t218 => ((texts_Hash.f k a0 2 (([t212, t215, t218, l4, l5] : List (List Int)))).bind fun t224 => (some t224))) = some r := H
  have A8 := z_ A80
  clear A80
  replace H := Option.bind_eq_some_iff.mp H
  obtain ⟨t218, A90, H⟩ := H
  replace H : ((texts_Hash.f k a0 2 (([t212, t215, t218, l4, l5] : List (List Int)))).bind fun t224 => (some t224)) = some r := H
  have A9 := z_ A90
  clear A90
  obtain ⟨y221, hy221⟩ : ∃ y_ : List (List Int), y_ = (([t212, t215, t218, l4, l5] : List (List Int))) := ⟨_, rfl⟩
  replace H : ((texts_Hash.f k a0 2 y221).bind fun t224 => (some t224)) = some r := by first | (rw [hy221]; with_reducible exact H) | (have H2_ := (Option.bind_some _ _).symm.trans H; rw [hy221]; with_reducible exact H2_) | (have H2_ := (Option.bind_some _ _).symm.trans H; with_reducible exact H2_) | with_reducible exact H | (rw [hy221]; exact H) | exact H
  have Ny221 := z_ hy221
  clear hy221
  replace H := Option.bind_eq_some_iff.mp H
  obtain ⟨t224, A100, H⟩ := H
  replace H : (some t224) = some r := H
  have A10 := z_ A100
  clear A100
  obtain rfl := Option.some.inj H
  go_enter Tryd.func78, Tryd.ntmps78
  go_wp2_with (first | ((with_reducible refine gate_callee (f := 94) rfl ?_); refine goesL_ (some 15) rfl rfl Tryd.func94 (by kernel_rfl) rfl #[.int .i64 a1] rfl (by (try simp only [List.map_toArray, List.map_cons, List.map_nil]); first | done | rfl | (simp only [List.length_drop, List.length_take]; rfl)) ?_; (with_reducible refine (texts_Number.calls a1 t212 _ A7.out).mono ?_); rintro e w11 ⟨v213, rfl, ho0, hb⟩; refine ⟨_, rfl, ?_⟩; have n0_ := z_ (Kd.V_below (by (with_reducible repeat (first | apply Kd.V_alloc | apply Kd.V_drewN | apply Kd.V_drew)); exact HO4.out) hb); have n1_ := z_ (Kd.V_below (by (with_reducible repeat (first | apply Kd.V_alloc | apply Kd.V_drewN | apply Kd.V_drew)); exact HO5.out) hb); have n2_ := z_ (Kd.V_lower (Kd.V_mono (ok' := fun k_ => ((P4_ k_ \/ P5_ k_) \/ w.heap.size <= k_)) ho0 (fun k_ hk_ => (.inr (Nat.le_trans (below_size (by repeat (first | (with_reducible first | exact HB.out | apply below_alloc | apply pw_below_drewN | apply below_drew1) | exact HB.out))) hk_)))) (below_size (by repeat (first | (with_reducible first | exact HB.out | apply below_alloc | apply pw_below_drewN | apply below_drew1) | exact HB.out)))); have n3_ := z_ (below_step (by repeat (first | (with_reducible first | exact HB.out | apply below_alloc | apply pw_below_drewN | apply below_drew1) | exact HB.out)) hb); clear HO4; clear HO5; clear HB; have HO4 := n0_; have HO5 := n1_; have HO214 := n2_; have HB := n3_; clear n0_ n1_ n2_ n3_; (try clear hb); (try clear hb2); (try clear hk); (try clear hi); (try clear ho0)) | ((with_reducible refine gate_callee (f := 77) rfl ?_); refine goesL_ (some 18) rfl rfl Tryd.func77 (by kernel_rfl) rfl #[.slice A2 l2.length c2, .int .i64 a1] rfl (by (try simp only [List.map_toArray, List.map_cons, List.map_nil]); first | done | rfl | (simp only [List.length_drop, List.length_take]; rfl)) ?_; (with_reducible refine (bits_First.calls _ _ l2 a1 t215 _ ?side1 ?side2 A8.out).mono ?_); (case side1 => repeat (first | exact (Kd.C_below HR2.out HB.out) | (with_reducible refine Kd.C_alloc ?_ _) | (with_reducible refine Kd.C_drewN ?_ _) | (with_reducible refine Kd.C_drew ?_))); (case side2 => exact HC2.out); rintro e w12 ⟨v216, rfl, ho0, hb⟩; refine ⟨_, rfl, ?_⟩; have n0_ := z_ (Kd.V_elder' (by (with_reducible repeat (first | apply Kd.V_alloc | apply Kd.V_drewN | apply Kd.V_drew)); exact HO4.out) (Kd.R_base ho0) hb); have n1_ := z_ (Kd.V_elder' (by (with_reducible repeat (first | apply Kd.V_alloc | apply Kd.V_drewN | apply Kd.V_drew)); exact HO5.out) (Kd.R_base ho0) hb); have n2_ := z_ (Kd.V_elder' (by (with_reducible repeat (first | apply Kd.V_alloc | apply Kd.V_drewN | apply Kd.V_drew)); exact HO214.out) (Kd.R_base ho0) hb); have n3_ := z_ (Kd.R_lower (Kd.R_newM (M := fun k_ => (w.heap.size <= k_)) ho0 (below_size (by repeat (first | (with_reducible first | exact HB.out | apply below_alloc | apply pw_below_drewN | apply below_drew1) | exact HB.out))) (fun k_ h_ => h_)) (below_size (by repeat (first | (with_reducible first | exact HB.out | apply below_alloc | apply pw_below_drewN | apply below_drew1) | exact HB.out)))); have n4_ := z_ (below_step (by repeat (first | (with_reducible first | exact HB.out | apply below_alloc | apply pw_below_drewN | apply below_drew1) | exact HB.out)) hb); clear HO4; clear HO5; clear HO214; clear HB; have HO4 := n0_; have HO5 := n1_; have HO214 := n2_; have HO217 := n3_; have HB := n4_; clear n0_ n1_ n2_ n3_ n4_; (try clear hb); (try clear hb2); (try clear hk); (try clear hi); (try clear ho0)) | ((with_reducible refine gate_callee (f := 94) rfl ?_); refine goesL_ (some 20) rfl rfl Tryd.func94 (by kernel_rfl) rfl #[.int .i64 a3] rfl (by (try simp only [List.map_toArray, List.map_cons, List.map_nil]); first | done | rfl | (simp only [List.length_drop, List.length_take]; rfl)) ?_; (with_reducible refine (texts_Number.calls a3 t218 _ A9.out).mono ?_); rintro e w13 ⟨v219, rfl, ho0, hb⟩; refine ⟨_, rfl, ?_⟩; have n0_ := z_ (Kd.V_below (by (with_reducible repeat (first | apply Kd.V_alloc | apply Kd.V_drewN | apply Kd.V_drew)); exact HO4.out) hb); have n1_ := z_ (Kd.V_below (by (with_reducible repeat (first | apply Kd.V_alloc | apply Kd.V_drewN | apply Kd.V_drew)); exact HO5.out) hb); have n2_ := z_ (Kd.V_below (by (with_reducible repeat (first | apply Kd.V_alloc | apply Kd.V_drewN | apply Kd.V_drew)); exact HO214.out) hb); have n3_ := z_ (Kd.R_below (by (with_reducible repeat (first | apply Kd.R_alloc | apply Kd.R_drewN | apply Kd.R_drew)); exact HO217.out) hb); have n4_ := z_ (Kd.V_lower (Kd.V_mono (ok' := fun k_ => ((P4_ k_ \/ P5_ k_) \/ w.heap.size <= k_) /\ some k_ ≠ (v216 : Value).ownBlock) ho0 (fun k_ hk_ => ⟨(.inr (Nat.le_trans (below_size (by repeat (first | (with_reducible first | exact HB.out | apply below_alloc | apply pw_below_drewN | apply below_drew1) | exact HB.out))) hk_)), (Kd.fresh' (Kd.R_lt (by (with_reducible repeat (first | apply Kd.R_alloc | apply Kd.R_drewN | apply Kd.R_drew)); exact HO217.out)) k_ hk_)⟩)) (below_size (by repeat (first | (with_reducible first | exact HB.out | apply below_alloc | apply pw_below_drewN | apply below_drew1) | exact HB.out)))); have n5_ := z_ (below_step (by repeat (first | (with_reducible first | exact HB.out | apply below_alloc | apply pw_below_drewN | apply below_drew1) | exact HB.out)) hb); clear HO4; clear HO5; clear HO214; clear HO217; clear HB; have HO4 := n0_; have HO5 := n1_; have HO214 := n2_; have HO217 := n3_; have HO220 := n4_; have HB := n5_; clear n0_ n1_ n2_ n3_ n4_ n5_; (try clear hb); (try clear hb2); (try clear hk); (try clear hi); (try clear ho0); obtain ⟨Ao14, co14, eo14⟩ := Kd.V_slice HO214.out; subst eo14; obtain ⟨Ao15, co15, eo15⟩ := Kd.R_slice HO217.out; subst eo15; obtain ⟨Ao16, co16, eo16⟩ := Kd.V_slice HO220.out; subst eo16) | ((with_reducible refine gate_dst (N := 23) rfl ?_); refine Kd.N_lit (Kd.slice 5 (Kd.int .u8)) _ 31 ?hg (N' := 23) ?hd (xs := ([t212, t215, t218, l4, l5] : List (List Int))) (inner := [.slice Ao14 t212.length co14, .slice Ao15 t215.length co15, .slice Ao16 t218.length co16, .slice A4 l4.length c4, .slice A5 l5.length c5]) (ok := (fun k_ => ((P4_ k_ \/ P5_ k_) \/ w.heap.size <= k_))) (okp := (fun k_ => ((P4_ k_ \/ P5_ k_) \/ w.heap.size <= k_))) ?hr ?hp (fun _ hk => hk) ((show ∀ k_, w13.heap.size <= k_ -> (fun k_ => ((P4_ k_ \/ P5_ k_) \/ w.heap.size <= k_)) k_ from fun k_ hk => (.inr (Nat.le_trans (below_size (by repeat (first | (with_reducible first | exact HB.out | apply below_alloc | apply pw_below_drewN | apply below_drew1) | exact HB.out))) hk))) _ (Nat.le_refl _)) (Below.refl _ _) (Nat.le_refl _) (by simp) ?_; (case hd => rfl); (case hg => rfl); (case hr => first | (go_simp; done) | (go_simp; rfl)); (case hp => exact (Reps.one (show Kd.FK (Kd.slice 5 (Kd.int .u8)) _ _ t212 [.slice Ao14 t212.length co14] from (Kd.FK_slice_mk (Kd.V_reads' (Kd.V_mono (ok' := (fun k_ => ((P4_ k_ \/ P5_ k_) \/ w.heap.size <= k_))) (HO214.out) (fun k_ hk => hk.1))).2.1 (Kd.V_F (Kd.V_mono (ok' := (fun k_ => ((P4_ k_ \/ P5_ k_) \/ w.heap.size <= k_))) (HO214.out) (fun k_ hk => hk.1))))) (Reps.one (show Kd.FK (Kd.slice 5 (Kd.int .u8)) _ _ t215 [.slice Ao15 t215.length co15] from (Kd.FK_slice_mk (Kd.R_reads' (Kd.R_mono (ok' := (fun k_ => ((P4_ k_ \/ P5_ k_) \/ w.heap.size <= k_))) (HO217.out) (fun k_ hk => (.inr (hk.1))))).2.1 (Kd.R_F (Kd.R_mono (ok' := (fun k_ => ((P4_ k_ \/ P5_ k_) \/ w.heap.size <= k_))) (HO217.out) (fun k_ hk => (.inr (hk.1))))))) (Reps.one (show Kd.FK (Kd.slice 5 (Kd.int .u8)) _ _ t218 [.slice Ao16 t218.length co16] from (Kd.FK_slice_mk (Kd.V_reads' (Kd.V_mono (ok' := (fun k_ => ((P4_ k_ \/ P5_ k_) \/ w.heap.size <= k_))) (HO220.out) (fun k_ hk => hk.1))).2.1 (Kd.V_F (Kd.V_mono (ok' := (fun k_ => ((P4_ k_ \/ P5_ k_) \/ w.heap.size <= k_))) (HO220.out) (fun k_ hk => hk.1))))) (Reps.one (show Kd.FK (Kd.slice 5 (Kd.int .u8)) _ _ l4 [.slice A4 l4.length c4] from (Kd.FK_slice_mk (Kd.V_reads' (Kd.V_mono (ok' := (fun k_ => ((P4_ k_ \/ P5_ k_) \/ w.heap.size <= k_))) (HO4.out) (fun k_ hk => hk.1))).2.1 (Kd.V_F (Kd.V_mono (ok' := (fun k_ => ((P4_ k_ \/ P5_ k_) \/ w.heap.size <= k_))) (HO4.out) (fun k_ hk => hk.1))))) (Reps.one (show Kd.FK (Kd.slice 5 (Kd.int .u8)) _ _ l5 [.slice A5 l5.length c5] from (Kd.FK_slice_mk (Kd.V_reads' (Kd.V_mono (ok' := (fun k_ => ((P4_ k_ \/ P5_ k_) \/ w.heap.size <= k_))) (HO5.out) (fun k_ hk => hk.1))).2.1 (Kd.V_F (Kd.V_mono (ok' := (fun k_ => ((P4_ k_ \/ P5_ k_) \/ w.heap.size <= k_))) (HO5.out) (fun k_ hk => hk.1))))) (Reps.none _ _))))))); intro v222 w17 ho18 hb hg_ hnew_; clear hg_ hnew_; (first | rw [<- Ny221.out] at ho18 | (simp only [Int.reduceToNat] at ho18; rw [<- Ny221.out] at ho18)); have n0_ := z_ (Kd.V_elder' (by (with_reducible repeat (first | apply Kd.V_alloc | apply Kd.V_drewN | apply Kd.V_drew)); exact HO4.out) (Kd.N_base ho18) hb); have n1_ := z_ (Kd.V_elder' (by (with_reducible repeat (first | apply Kd.V_alloc | apply Kd.V_drewN | apply Kd.V_drew)); exact HO5.out) (Kd.N_base ho18) hb); have n2_ := z_ (Kd.V_elder' (by (with_reducible repeat (first | apply Kd.V_alloc | apply Kd.V_drewN | apply Kd.V_drew)); exact HO214.out) (Kd.N_base ho18) hb); have n3_ := z_ (Kd.V_elder' (by (with_reducible repeat (first | apply Kd.V_alloc | apply Kd.V_drewN | apply Kd.V_drew)); exact HO220.out) (Kd.N_base ho18) hb); have n4_ := z_ (Kd.N_lower ho18 (below_size (by repeat (first | (with_reducible first | exact HB.out | apply below_alloc | apply pw_below_drewN | apply below_drew1) | exact HB.out)))); have n5_ := z_ (below_step (by repeat (first | (with_reducible first | exact HB.out | apply below_alloc | apply pw_below_drewN | apply below_drew1) | exact HB.out)) hb); clear HO4; clear HO5; clear HO214; clear HO220; clear HB; clear HO217; have HO4 := n0_; have HO5 := n1_; have HO214 := n2_; have HO220 := n3_; have HO223 := n4_; have HB := n5_; clear n0_ n1_ n2_ n3_ n4_ n5_; clear hb ho18; obtain ⟨Ao19, co19, eo19⟩ := Kd.N_slice HO223.out; subst eo19) | ((with_reducible refine gate_callee (f := 70) rfl ?_); refine goesL_ (some 24) rfl rfl Tryd.func70 (by kernel_rfl) rfl #[.int .i64 a0, .int .i64 2, .slice Ao19 y221.length co19] rfl (by (try simp only [List.map_toArray, List.map_cons, List.map_nil]); first | done | rfl | (simp only [List.length_drop, List.length_take]; rfl)) ?_; (with_reducible refine (texts_Hash.calls k a0 2 _ _ y221 t224 _ ?side1 ?side2 (by first | (with_reducible exact HGS.out) | exact GlobS.of HGS.out (by repeat (first | (with_reducible first | exact HB.out | apply below_alloc | apply pw_below_drewN | apply below_drew1) | exact HB.out)) | exact GlobS.of HGS.out (by repeat (first | exact Below.refl _ _ | apply below_alloc | apply pw_below_drewN | apply below_drew1))) A10.out).mono ?_); (case side1 => repeat (first | exact (Kd.N_reads' HO223.out).2.2 | (with_reducible refine Kd.C_alloc ?_ _) | (with_reducible refine Kd.C_drewN ?_ _) | (with_reducible refine Kd.C_drew ?_))); (case side2 => exact (Kd.N_reads' HO223.out).2.1); rintro e w20 ⟨v225, rfl, ho0, hb⟩; refine ⟨_, rfl, ?_⟩; have n0_ := z_ (Kd.V_below (by (with_reducible repeat (first | apply Kd.V_alloc | apply Kd.V_drewN | apply Kd.V_drew)); exact HO4.out) hb); have n1_ := z_ (Kd.V_below (by (with_reducible repeat (first | apply Kd.V_alloc | apply Kd.V_drewN | apply Kd.V_drew)); exact HO5.out) hb); have n2_ := z_ (Kd.V_below (by (with_reducible repeat (first | apply Kd.V_alloc | apply Kd.V_drewN | apply Kd.V_drew)); exact HO214.out) hb); have n3_ := z_ (Kd.V_below (by (with_reducible repeat (first | apply Kd.V_alloc | apply Kd.V_drewN | apply Kd.V_drew)); exact HO220.out) hb); have n4_ := z_ (Kd.N_below (by (with_reducible repeat (first | apply Kd.N_alloc | apply Kd.N_drewN | apply Kd.N_drew)); exact HO223.out) hb); have n5_ := z_ (Kd.V_lower (Kd.V_mono (ok' := fun k_ => ((P4_ k_ \/ P5_ k_) \/ w.heap.size <= k_) /\ some k_ ≠ (.slice Ao19 y221.length co19 : Value).ownBlock) ho0 (fun k_ hk_ => ⟨(.inr (Nat.le_trans (below_size (by repeat (first | (with_reducible first | exact HB.out | apply below_alloc | apply pw_below_drewN | apply below_drew1) | exact HB.out))) hk_)), (Kd.fresh' (Kd.N_lt (by (with_reducible repeat (first | apply Kd.N_alloc | apply Kd.N_drewN | apply Kd.N_drew)); exact HO223.out)) k_ hk_)⟩)) (below_size (by repeat (first | (with_reducible first | exact HB.out | apply below_alloc | apply pw_below_drewN | apply below_drew1) | exact HB.out)))); have n6_ := z_ (below_step (by repeat (first | (with_reducible first | exact HB.out | apply below_alloc | apply pw_below_drewN | apply below_drew1) | exact HB.out)) hb); clear HO4; clear HO5; clear HO214; clear HO220; clear HO223; clear HB; have HO4 := n0_; have HO5 := n1_; have HO214 := n2_; have HO220 := n3_; have HO223 := n4_; have HO226 := n5_; have HB := n6_; clear n0_ n1_ n2_ n3_ n4_ n5_ n6_; (try clear hb); (try clear hb2); (try clear hk); (try clear hi); (try clear ho0)))
  go_ret
  exact ⟨_, by first | rfl | (simp [errW_none, errW_some] <;> rfl) | (simp [*, errW_none, errW_some] <;> rfl), by (with_reducible repeat (first | apply Kd.V_alloc | apply Kd.V_drewN | apply Kd.V_drew)); exact Kd.V_mono HO226.out (fun _ hk => hk.1), by repeat (first | (with_reducible first | exact HB.out | apply below_alloc | apply pw_below_drewN | apply below_drew1) | exact HB.out)⟩
end Go.Proofs.YtdeneoknjeegbaaDoor.P
end
