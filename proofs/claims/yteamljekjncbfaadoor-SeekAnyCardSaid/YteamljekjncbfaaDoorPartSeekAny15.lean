/- Lemmas of this claim, part 15. -/
import Derived.Test.YteamljekjncbfaaDoorPartSeekAny2
import Derived.Test.YteamljekjncbfaaDoorPartSeekAny8
import Derived.Test.YteamljekjncbfaaDoorPartSeekAny14
import Derived.Deep.RegionHeld3
import Derived.WalkSpells
import Derived.WalkLawsBesides
section
namespace Go.Proofs.YteamljekjncbfaaDoor.P
open Go.RowKit Go.Proofs.YteamljekjncbfaaDoorW.PrintWords Go.Proofs.YteamljekjncbfaaDoorW.PrintLast Go.Proofs.YteamljekjncbfaaDoorW.PrintMore
attribute [local go_sem] max2_int min2_int max_two min_two max_three min_three max_four min_four
set_option linter.unusedVariables false
set_option linter.unusedSimpArgs false
def annalsref13_Hash.f (k : Nat) (a0 : Int) (a1_0 : Int) (a1_1 : Int) (l1_2 : List Int) (a1_3 : Int) (l1_4 : List Int) (l1_5 : List (List Int)) : Option (List Int) := (annalsref13_Encode.f k a0 a1_0 a1_1 l1_2 a1_3 l1_4 l1_5).bind fun bt403 => (if bt403.2 = 0 then ((annalsref02_Hash.f k a0 5 (([bt403.1] : List (List Int)))).bind fun t410 => (some t410)) else (some ([] : List Int)))
set_option maxHeartbeats 8000000 in
set_option maxRecDepth 100000 in
theorem annalsref13_Hash.calls (k : Nat) (a0 : Int) (a1_0 : Int) (a1_1 : Int) (A1_2 : Option Addr) (c1_2 : Nat) (l1_2 : List Int) (a1_3 : Int) (A1_4 : Option Addr) (c1_4 : Nat) (l1_4 : List Int) (A1_5 : Option Addr) (c1_5 : Nat) (l1_5 : List (List Int)) (r : List Int) (w : World) (hr1_2 : Kd.C (Kd.int .u8) w A1_2 l1_2.length l1_2) (hc1_2 : l1_2.length ≤ c1_2) (hr1_4 : Kd.C (Kd.int .u8) w A1_4 l1_4.length l1_4) (hc1_4 : l1_4.length ≤ c1_4) (hr1_5 : Kd.C (Kd.slice 5 (Kd.int .u8)) w A1_5 l1_5.length l1_5) (hc1_5 : l1_5.length ≤ c1_5) (h : annalsref13_Hash.f k a0 a1_0 a1_1 l1_2 a1_3 l1_4 l1_5 = some r) :
    Calls Tryd.prog 33 #[.int .i64 a0, .agg #[.int .i64 a1_0, .int .i64 a1_1, .slice A1_2 l1_2.length c1_2, .int .i64 a1_3, .slice A1_4 l1_4.length c1_4, .slice A1_5 l1_5.length c1_5]] w fun e w' => ∃ v0_ : Value, e = .returned (v0_) ∧ Kd.R (Kd.int .u8) 5 w' w.heap.size (fun _ => True) v0_ r ∧ Below w.heap.size w w' := by
  have hu40 := Tryd.underlying40
  have HR1_2 := Aside0.mk hr1_2
  have HC1_2 := Aside0.mk hc1_2
  clear hr1_2 hc1_2
  have HR1_4 := Aside0.mk hr1_4
  have HC1_4 := Aside0.mk hc1_4
  clear hr1_4 hc1_4
  have HR1_5 := Aside0.mk hr1_5
  have HC1_5 := Aside0.mk hc1_5
  clear hr1_5 hc1_5
  have HB := Aside0.mk (Below.refl w.heap.size w)
  have H : ((annalsref13_Encode.f k a0 a1_0 a1_1 l1_2 a1_3 l1_4 l1_5).bind fun bt403 => (if bt403.2 = 0 then ((annalsref02_Hash.f k a0 5 (([bt403.1] : List (List Int)))).bind fun t410 => (some t410)) else (some ([] : List Int)))) = some r := h
  clear h
  replace H := Option.bind_eq_some_iff.mp H
  obtain ⟨⟨t403, t406⟩, A30, H⟩ := H
  replace H : (if t406 = 0 then ((annalsref02_Hash.f k a0 5 (([t403] : List (List Int)))).bind fun t410 => (some t410)) else (some ([] : List Int))) = some r := H
  have A3 := Aside0.mk A30
  clear A30
  by_cases c4 : t406 = 0
  · rw [if_pos c4] at H
    have c4b0 : (t406 == 0) = true := beq_iff_eq.mpr c4
    have c4b1 : (t406 != 0) = false := bne_eq_false_iff_eq.mpr c4
    clear c4
    obtain ⟨y407, hy407⟩ : ∃ y_ : List (List Int), y_ = (([t403] : List (List Int))) := ⟨_, rfl⟩
    replace H : ((annalsref02_Hash.f k a0 5 y407).bind fun t410 => (some t410)) = some r := by first | (rw [hy407]; with_reducible exact H) | (have H2_ := (Option.bind_some _ _).symm.trans H; rw [hy407]; with_reducible exact H2_) | (have H2_ := (Option.bind_some _ _).symm.trans H; with_reducible exact H2_) | with_reducible exact H | (rw [hy407]; exact H) | exact H
    have Ny407 := Aside0.mk hy407
    clear hy407
    replace H := Option.bind_eq_some_iff.mp H
    obtain ⟨t410, A50, H⟩ := H
    replace H : (some t410) = some r := H
    have A5 := Aside0.mk A50
    clear A50
    obtain rfl := Option.some.inj H
    go_enter Tryd.func33, Tryd.ntmps33
    go_wp2_with (first | ((with_reducible refine gate_dst (N := 3) rfl ?_); refine box_event ?hg (N := 3) ?hd (cs := #[.int .i64 a1_0, .int .i64 a1_1, .slice A1_2 l1_2.length c1_2, .int .i64 a1_3, .slice A1_4 l1_4.length c1_4, .slice A1_5 l1_5.length c1_5]) (t := 40) ?hr ?_; (case hd => rfl); (case hg => rfl); (case hr => first | (go_simp; done) | (go_simp; rfl)); intro gb402 hg w6 hbox hb; have n0_ := Aside0.mk (below_step (by repeat (first | (with_reducible first | exact HB.out | apply below_alloc | apply pw_below_drewN | apply below_drew1) | exact HB.out)) hb); have n1_ := Aside0.mk (hbox); have n2_ := Aside0.mk ((by rw [hg]; exact (below_size (by repeat (first | (with_reducible first | exact HB.out | apply below_alloc | apply pw_below_drewN | apply below_drew1) | exact HB.out))) : w.heap.size ≤ gb402)); have n3_ := Aside0.mk ((by rw [hg]; exact (below_size (by repeat (first | (with_reducible first | exact HB.out | apply below_alloc | apply pw_below_drewN | apply below_drew1) | exact HB.out))) : w.heap.size ≤ gb402)); clear HB; have HB := n0_; have BK402 := n1_; have GW402 := n2_; have GE402 := n3_; clear n0_ n1_ n2_ n3_; clear hb hbox hg; have hcz7_0 : w6.cell? ⟨gb402, 0, none⟩ = some (.int .i64 a1_0) := (blk_cell BK402.out 0).trans rfl; have hcz7_1 : w6.cell? ⟨gb402, 1, none⟩ = some (.int .i64 a1_1) := (blk_cell BK402.out 1).trans rfl; have hcz7_2 : w6.cell? ⟨gb402, 2, none⟩ = some (.slice A1_2 l1_2.length c1_2) := (blk_cell BK402.out 2).trans rfl; have hcz7_3 : w6.cell? ⟨gb402, 3, none⟩ = some (.int .i64 a1_3) := (blk_cell BK402.out 3).trans rfl; have hcz7_4 : w6.cell? ⟨gb402, 4, none⟩ = some (.slice A1_4 l1_4.length c1_4) := (blk_cell BK402.out 4).trans rfl; have hcz7_5 : w6.cell? ⟨gb402, 5, none⟩ = some (.slice A1_5 l1_5.length c1_5) := (blk_cell BK402.out 5).trans rfl; have hfz7_0 := blk_frozen BK402.out 0; have hfz7_1 := blk_frozen BK402.out 1; have hfz7_2 := blk_frozen BK402.out 2; have hfz7_3 := blk_frozen BK402.out 3; have hfz7_4 := blk_frozen BK402.out 4; have hfz7_5 := blk_frozen BK402.out 5) | ((with_reducible refine gate_callee (f := 66) rfl ?_); refine goesL_ (some 10) rfl rfl Tryd.func66 (by kernel_rfl) rfl #[.int .i64 a0, .agg #[.int .i64 a1_0, .int .i64 a1_1, .slice A1_2 l1_2.length c1_2, .int .i64 a1_3, .slice A1_4 l1_4.length c1_4, .slice A1_5 l1_5.length c1_5]] rfl (by (try simp only [List.map_toArray, List.map_cons, List.map_nil]); first | done | rfl | (simp only [List.length_drop, List.length_take]; rfl)) ?_; (with_reducible refine (annalsref13_Encode.calls k a0 a1_0 a1_1 _ _ l1_2 a1_3 _ _ l1_4 _ _ l1_5 t403 t406 _ ?side1 ?side2 ?side3 ?side4 ?side5 ?side6 A3.out).mono ?_); (case side1 => repeat (first | exact (Kd.C_below HR1_2.out HB.out) | (with_reducible refine Kd.C_alloc ?_ _) | (with_reducible refine Kd.C_drewN ?_ _) | (with_reducible refine Kd.C_drew ?_))); (case side2 => exact HC1_2.out); (case side3 => repeat (first | exact (Kd.C_below HR1_4.out HB.out) | (with_reducible refine Kd.C_alloc ?_ _) | (with_reducible refine Kd.C_drewN ?_ _) | (with_reducible refine Kd.C_drew ?_))); (case side4 => exact HC1_4.out); (case side5 => repeat (first | exact (Kd.C_below HR1_5.out HB.out) | (with_reducible refine Kd.C_alloc ?_ _) | (with_reducible refine Kd.C_drewN ?_ _) | (with_reducible refine Kd.C_drew ?_))); (case side6 => exact HC1_5.out); rintro e w8 ⟨v404, rfl, ho0, hb⟩; refine ⟨_, rfl, ?_⟩; have n0_ := Aside0.mk (Kd.R_lower ho0 (below_size (by repeat (first | (with_reducible first | exact HB.out | apply below_alloc | apply pw_below_drewN | apply below_drew1 | refine below_set ?_ GE402.out) | exact HB.out)))); have n1_ := Aside0.mk (blk_below (g := gb402) (o := .cells #[.int .i64 a1_0, .int .i64 a1_1, .slice A1_2 l1_2.length c1_2, .int .i64 a1_3, .slice A1_4 l1_4.length c1_4, .slice A1_5 l1_5.length c1_5] 40 (0, 0)) (by (with_reducible repeat (first | refine blk_drewN ?_ _ | refine blk_drew ?_ | refine blk_alloc ?_ _)); exact BK402.out) hb); have n2_ := Aside0.mk (below_step (by repeat (first | (with_reducible first | exact HB.out | apply below_alloc | apply pw_below_drewN | apply below_drew1 | refine below_set ?_ GE402.out) | exact HB.out)) hb); clear BK402; clear HB; have HO405 := n0_; have BK402 := n1_; have HB := n2_; clear n0_ n1_ n2_; (try clear hb); (try clear hb2); (try clear hk); (try clear hi); (try clear ho0); obtain ⟨Ao9, co9, eo9⟩ := Kd.R_slice HO405.out; subst eo9) | ((with_reducible refine gate_dst (N := 17) rfl ?_); refine Kd.N_lit (Kd.slice 5 (Kd.int .u8)) _ 33 ?hg (N' := 17) ?hd (xs := ([t403] : List (List Int))) (inner := [.slice Ao9 t403.length co9]) (ok := (fun k_ => k_ ≠ gb402)) (okp := (fun k_ => k_ ≠ gb402)) ?hr ?hp (fun _ hk => hk) ((show ∀ k_, w8.heap.size ≤ k_ → (fun k_ => k_ ≠ gb402) k_ from fun k_ hk => Kd.freshB (g := gb402) (o := .cells #[.int .i64 a1_0, .int .i64 a1_1, .slice A1_2 l1_2.length c1_2, .int .i64 a1_3, .slice A1_4 l1_4.length c1_4, .slice A1_5 l1_5.length c1_5] 40 (0, 0)) (by (with_reducible repeat (first | refine blk_drewN ?_ _ | refine blk_drew ?_ | refine blk_alloc ?_ _)); exact BK402.out) k_ hk) _ (Nat.le_refl _)) (Below.refl _ _) (Nat.le_refl _) (by simp) ?_; (case hd => rfl); (case hg => rfl); (case hr => first | (go_simp; done) | (go_simp; rfl)); (case hp => exact (Reps.one (show Kd.FK (Kd.slice 5 (Kd.int .u8)) _ _ t403 [.slice Ao9 t403.length co9] from (Kd.FK_slice_mk (Kd.R_reads' (Kd.R_mono (ok' := (fun k_ => k_ ≠ gb402)) (Kd.R_types (HO405.out) BK402.out (by decide)) (fun k_ hk => hk.2))).2.1 (Kd.R_F (Kd.R_mono (ok' := (fun k_ => k_ ≠ gb402)) (Kd.R_types (HO405.out) BK402.out (by decide)) (fun k_ hk => hk.2))))) (Reps.none _ _))); intro v408 w10 ho11 hb hg_ hnew_; clear hg_ hnew_; (first | rw [← Ny407.out] at ho11 | (simp only [Int.reduceToNat] at ho11; rw [← Ny407.out] at ho11)); have n0_ := Aside0.mk (Kd.N_lower ho11 (below_size (by repeat (first | (with_reducible first | exact HB.out | apply below_alloc | apply pw_below_drewN | apply below_drew1 | refine below_set ?_ GE402.out) | exact HB.out)))); have n1_ := Aside0.mk (blk_below (g := gb402) (o := .cells #[.int .i64 a1_0, .int .i64 a1_1, .slice A1_2 l1_2.length c1_2, .int .i64 a1_3, .slice A1_4 l1_4.length c1_4, .slice A1_5 l1_5.length c1_5] 40 (0, 0)) (by (with_reducible repeat (first | refine blk_drewN ?_ _ | refine blk_drew ?_ | refine blk_alloc ?_ _)); exact BK402.out) hb); have n2_ := Aside0.mk (below_step (by repeat (first | (with_reducible first | exact HB.out | apply below_alloc | apply pw_below_drewN | apply below_drew1 | refine below_set ?_ GE402.out) | exact HB.out)) hb); clear BK402; clear HB; clear HO405; have HO409 := n0_; have BK402 := n1_; have HB := n2_; clear n0_ n1_ n2_; clear hb ho11; obtain ⟨Ao12, co12, eo12⟩ := Kd.N_slice HO409.out; subst eo12) | ((with_reducible refine gate_callee (f := 57) rfl ?_); refine goesL_ (some 18) rfl rfl Tryd.func57 (by kernel_rfl) rfl #[.int .i64 a0, .int .i64 5, .slice Ao12 y407.length co12] rfl (by (try simp only [List.map_toArray, List.map_cons, List.map_nil]); first | done | rfl | (simp only [List.length_drop, List.length_take]; rfl)) ?_; (with_reducible refine (annalsref02_Hash.calls k a0 5 _ _ y407 t410 _ ?side1 ?side2 A5.out).mono ?_); (case side1 => repeat (first | exact (Kd.N_reads' HO409.out).2.2 | (with_reducible refine Kd.C_alloc ?_ _) | (with_reducible refine Kd.C_drewN ?_ _) | (with_reducible refine Kd.C_drew ?_))); (case side2 => exact (Kd.N_reads' HO409.out).2.1); rintro e w13 ⟨v411, rfl, ho0, hb⟩; refine ⟨_, rfl, ?_⟩; have n0_ := Aside0.mk (Kd.N_elder' (by (with_reducible repeat (first | apply Kd.N_alloc | apply Kd.N_drewN | apply Kd.N_drew)); exact HO409.out) (Kd.R_base ho0) hb); have n1_ := Aside0.mk (Kd.R_lower ho0 (below_size (by repeat (first | (with_reducible first | exact HB.out | apply below_alloc | apply pw_below_drewN | apply below_drew1 | refine below_set ?_ GE402.out) | exact HB.out)))); have n2_ := Aside0.mk (blk_below (g := gb402) (o := .cells #[.int .i64 a1_0, .int .i64 a1_1, .slice A1_2 l1_2.length c1_2, .int .i64 a1_3, .slice A1_4 l1_4.length c1_4, .slice A1_5 l1_5.length c1_5] 40 (0, 0)) (by (with_reducible repeat (first | refine blk_drewN ?_ _ | refine blk_drew ?_ | refine blk_alloc ?_ _)); exact BK402.out) hb); have n3_ := Aside0.mk (below_step (by repeat (first | (with_reducible first | exact HB.out | apply below_alloc | apply pw_below_drewN | apply below_drew1 | refine below_set ?_ GE402.out) | exact HB.out)) hb); clear HO409; clear BK402; clear HB; have HO409 := n0_; have HO412 := n1_; have BK402 := n2_; have HB := n3_; clear n0_ n1_ n2_ n3_; (try clear hb); (try clear hb2); (try clear hk); (try clear hi); (try clear ho0)))
    go_ret
    exact ⟨_, by first | rfl | (simp [errW_none, errW_some] <;> rfl) | (simp [*, errW_none, errW_some] <;> rfl), by (with_reducible repeat (first | apply Kd.R_alloc | apply Kd.R_drewN | apply Kd.R_drew)); exact HO412.out, by repeat (first | (with_reducible first | exact HB.out | apply below_alloc | apply pw_below_drewN | apply below_drew1 | refine below_set ?_ GE402.out) | exact HB.out)⟩
  · rw [if_neg c4] at H
    have c4b0 : (t406 == 0) = false := beq_eq_false_iff_ne.mpr c4
    have c4b1 : (t406 != 0) = true := bne_iff_ne.mpr c4
    obtain rfl := Option.some.inj H
    go_enter Tryd.func33, Tryd.ntmps33
    go_wp2_with (first | ((with_reducible refine gate_dst (N := 3) rfl ?_); refine box_event ?hg (N := 3) ?hd (cs := #[.int .i64 a1_0, .int .i64 a1_1, .slice A1_2 l1_2.length c1_2, .int .i64 a1_3, .slice A1_4 l1_4.length c1_4, .slice A1_5 l1_5.length c1_5]) (t := 40) ?hr ?_; (case hd => rfl); (case hg => rfl); (case hr => first | (go_simp; done) | (go_simp; rfl)); intro gb402 hg w14 hbox hb; have n0_ := Aside0.mk (below_step (by repeat (first | (with_reducible first | exact HB.out | apply below_alloc | apply pw_below_drewN | apply below_drew1) | exact HB.out)) hb); have n1_ := Aside0.mk (hbox); have n2_ := Aside0.mk ((by rw [hg]; exact (below_size (by repeat (first | (with_reducible first | exact HB.out | apply below_alloc | apply pw_below_drewN | apply below_drew1) | exact HB.out))) : w.heap.size ≤ gb402)); have n3_ := Aside0.mk ((by rw [hg]; exact (below_size (by repeat (first | (with_reducible first | exact HB.out | apply below_alloc | apply pw_below_drewN | apply below_drew1) | exact HB.out))) : w.heap.size ≤ gb402)); clear HB; have HB := n0_; have BK402 := n1_; have GW402 := n2_; have GE402 := n3_; clear n0_ n1_ n2_ n3_; clear hb hbox hg; have hcz15_0 : w14.cell? ⟨gb402, 0, none⟩ = some (.int .i64 a1_0) := (blk_cell BK402.out 0).trans rfl; have hcz15_1 : w14.cell? ⟨gb402, 1, none⟩ = some (.int .i64 a1_1) := (blk_cell BK402.out 1).trans rfl; have hcz15_2 : w14.cell? ⟨gb402, 2, none⟩ = some (.slice A1_2 l1_2.length c1_2) := (blk_cell BK402.out 2).trans rfl; have hcz15_3 : w14.cell? ⟨gb402, 3, none⟩ = some (.int .i64 a1_3) := (blk_cell BK402.out 3).trans rfl; have hcz15_4 : w14.cell? ⟨gb402, 4, none⟩ = some (.slice A1_4 l1_4.length c1_4) := (blk_cell BK402.out 4).trans rfl; have hcz15_5 : w14.cell? ⟨gb402, 5, none⟩ = some (.slice A1_5 l1_5.length c1_5) := (blk_cell BK402.out 5).trans rfl; have hfz15_0 := blk_frozen BK402.out 0; have hfz15_1 := blk_frozen BK402.out 1; have hfz15_2 := blk_frozen BK402.out 2; have hfz15_3 := blk_frozen BK402.out 3; have hfz15_4 := blk_frozen BK402.out 4; have hfz15_5 := blk_frozen BK402.out 5) | ((with_reducible refine gate_callee (f := 66) rfl ?_); refine goesL_ (some 10) rfl rfl Tryd.func66 (by kernel_rfl) rfl #[.int .i64 a0, .agg #[.int .i64 a1_0, .int .i64 a1_1, .slice A1_2 l1_2.length c1_2, .int .i64 a1_3, .slice A1_4 l1_4.length c1_4, .slice A1_5 l1_5.length c1_5]] rfl (by (try simp only [List.map_toArray, List.map_cons, List.map_nil]); first | done | rfl | (simp only [List.length_drop, List.length_take]; rfl)) ?_; (with_reducible refine (annalsref13_Encode.calls k a0 a1_0 a1_1 _ _ l1_2 a1_3 _ _ l1_4 _ _ l1_5 t403 t406 _ ?side1 ?side2 ?side3 ?side4 ?side5 ?side6 A3.out).mono ?_); (case side1 => repeat (first | exact (Kd.C_below HR1_2.out HB.out) | (with_reducible refine Kd.C_alloc ?_ _) | (with_reducible refine Kd.C_drewN ?_ _) | (with_reducible refine Kd.C_drew ?_))); (case side2 => exact HC1_2.out); (case side3 => repeat (first | exact (Kd.C_below HR1_4.out HB.out) | (with_reducible refine Kd.C_alloc ?_ _) | (with_reducible refine Kd.C_drewN ?_ _) | (with_reducible refine Kd.C_drew ?_))); (case side4 => exact HC1_4.out); (case side5 => repeat (first | exact (Kd.C_below HR1_5.out HB.out) | (with_reducible refine Kd.C_alloc ?_ _) | (with_reducible refine Kd.C_drewN ?_ _) | (with_reducible refine Kd.C_drew ?_))); (case side6 => exact HC1_5.out); rintro e w16 ⟨v404, rfl, ho0, hb⟩; refine ⟨_, rfl, ?_⟩; have n0_ := Aside0.mk (Kd.R_lower ho0 (below_size (by repeat (first | (with_reducible first | exact HB.out | apply below_alloc | apply pw_below_drewN | apply below_drew1 | refine below_set ?_ GE402.out) | exact HB.out)))); have n1_ := Aside0.mk (blk_below (g := gb402) (o := .cells #[.int .i64 a1_0, .int .i64 a1_1, .slice A1_2 l1_2.length c1_2, .int .i64 a1_3, .slice A1_4 l1_4.length c1_4, .slice A1_5 l1_5.length c1_5] 40 (0, 0)) (by (with_reducible repeat (first | refine blk_drewN ?_ _ | refine blk_drew ?_ | refine blk_alloc ?_ _)); exact BK402.out) hb); have n2_ := Aside0.mk (below_step (by repeat (first | (with_reducible first | exact HB.out | apply below_alloc | apply pw_below_drewN | apply below_drew1 | refine below_set ?_ GE402.out) | exact HB.out)) hb); clear BK402; clear HB; have HO405 := n0_; have BK402 := n1_; have HB := n2_; clear n0_ n1_ n2_; (try clear hb); (try clear hb2); (try clear hk); (try clear hi); (try clear ho0)))
    go_ret
    exact ⟨_, by first | rfl | (simp [errW_none, errW_some] <;> rfl) | (simp [*, errW_none, errW_some] <;> rfl), by first | exact Kd.R_nil _ _ _ _ _ | exact Kd.N_nil _ _ _ _ _ | exact Kd.V_nil _ _ _ _ _ | exact Kd.Q_nil _ _ _ _ _ | exact Kd.S_nil _ _ _ _ _, by repeat (first | (with_reducible first | exact HB.out | apply below_alloc | apply pw_below_drewN | apply below_drew1 | refine below_set ?_ GE402.out) | exact HB.out)⟩
end Go.Proofs.YteamljekjncbfaaDoor.P
end
section
set_option linter.unusedVariables false
set_option linter.unusedSimpArgs false
namespace Go.Proofs.YteamljekjncbfaaDoor.P
open Go.RowKit Go.Proofs.YteamljekjncbfaaDoorW.PrintWords Go.Proofs.YteamljekjncbfaaDoorW.PrintLast Go.Proofs.YteamljekjncbfaaDoorW.PrintMore
theorem keep_trans {w w1 w2 : World} (h : Below w.heap.size w w1) (h2 : Below w1.heap.size w1 w2) : Below w.heap.size w w2 := h.trans (h2.mono h.size)
set_option maxHeartbeats 4000000 in
set_option maxRecDepth 100000 in
theorem linked_calls (k : Nat) (a0 : Int) (e1 t1 : Int) (A2 : Option Addr) (c2 : Nat) (l2 : List Int) (n1 : Int) (A4 : Option Addr) (c4 : Nat) (l4 : List Int) (A5 : Option Addr) (c5 : Nat) (l5 : List (List Int))
    (e2 t2 : Int) (B2 : Option Addr) (d2 : Nat) (m2 : List Int) (n2 : Int) (B4 : Option Addr) (d4 : Nat) (m4 : List Int) (B5 : Option Addr) (d5 : Nat) (m5 : List (List Int)) (ls : List Int) (hr : List Int) (j : Nat) (w : World)
    (hr5 : Kd.C (Kd.slice 5 (Kd.int .u8)) w A5 l5.length l5) (hm2 : Kd.C (Kd.int .u8) w B2 m2.length m2) (hmc2 : m2.length ≤ d2) (hm4 : Kd.C (Kd.int .u8) w B4 m4.length m4) (hmc4 : m4.length ≤ d4) (hm5 : Kd.C (Kd.slice 5 (Kd.int .u8)) w B5 m5.length m5) (hmc5 : m5.length ≤ d5)
    (hl : annalsref14_Links.f k e1 = some ls) (hh : annalsref13_Hash.f k a0 e2 t2 m2 n2 m4 m5 = some hr) (hj : j < ls.length) (hj5 : j < l5.length) (heq : rd ls (j : Int) = e2) (hne : ∀ i : Nat, i < j → rd ls (i : Int) ≠ e2) :
    Calls Tryd.prog 65 #[.int .i64 a0, .agg #[.int .i64 e1, .int .i64 t1, .slice A2 l2.length c2, .int .i64 n1, .slice A4 l4.length c4, .slice A5 l5.length c5], .agg #[.int .i64 e2, .int .i64 t2, .slice B2 m2.length d2, .int .i64 n2, .slice B4 m4.length d4, .slice B5 m5.length d5]] w
      fun e w' => e = .returned (.bool ((strOfNums (rd_L1 l5 (j : Int))).toList == (strOfNums hr).toList)) ∧ Below w.heap.size w w' := by
  have HR5 := Aside0.mk hr5
  have HM2 := Aside0.mk hm2
  have HM4 := Aside0.mk hm4
  have HM5 := Aside0.mk hm5
  have HC2 := Aside0.mk hmc2
  have HC4 := Aside0.mk hmc4
  have HC5 := Aside0.mk hmc5
  have HL := Aside0.mk hl
  have HH := Aside0.mk hh
  have HJ := Aside0.mk hj
  have HJ5 := Aside0.mk hj5
  have HEQ := Aside0.mk heq
  have HNE := Aside0.mk hne
  clear hr5 hm2 hm4 hm5 hmc2 hmc4 hmc5 hl hh hj hj5 heq hne
  go_enter Tryd.func65, Tryd.ntmps65
  go_wp2_with fail
  refine (annalsref14_Links.calls k e1 ls _ HL.out).mono ?_
  rintro e w1 ⟨v, rfl, hv, hb⟩
  obtain ⟨Av, cv, rfl⟩ := Kd.R_slice hv
  obtain ⟨W0, hW0⟩ : ∃ W0, W0 = (w.alloc (.cells #[.int .i64 e1, .int .i64 t1, .slice A2 l2.length c2, .int .i64 n1, .slice A4 l4.length c4, .slice A5 l5.length c5] 40)).alloc (.cells #[.int .i64 e2, .int .i64 t2, .slice B2 m2.length d2, .int .i64 n2, .slice B4 m4.length d4, .slice B5 m5.length d5] 40) := ⟨_, rfl⟩
  rw [← hW0] at hv hb
  have hB0 : Below w.heap.size w W0 := by rw [hW0]; exact below_alloc (below_alloc (Below.refl _ _) _) _
  have h4 : W0.heap[w.heap.size]? = some (.cells #[.int .i64 e1, .int .i64 t1, .slice A2 l2.length c2, .int .i64 n1, .slice A4 l4.length c4, .slice A5 l5.length c5] 40 (0, 0)) := by
    rw [hW0]
    exact blk_below (heap_alloc_new w _) (below_alloc (Below.refl _ _) _)
  have h5 : W0.heap[w.heap.size + 1]? = some (.cells #[.int .i64 e2, .int .i64 t2, .slice B2 m2.length d2, .int .i64 n2, .slice B4 m4.length d4, .slice B5 m5.length d5] 40 (0, 0)) := by
    rw [hW0]
    have := heap_alloc_new (w.alloc (.cells #[.int .i64 e1, .int .i64 t1, .slice A2 l2.length c2, .int .i64 n1, .slice A4 l4.length c4, .slice A5 l5.length c5] 40)) (.cells #[.int .i64 e2, .int .i64 t2, .slice B2 m2.length d2, .int .i64 n2, .slice B4 m4.length d4, .slice B5 m5.length d5] 40)
    simpa using this
  have hB1 : Below w.heap.size w w1 := hB0.trans (hb.mono hB0.size)
  have HB1 := Aside0.mk hB1
  have HN4 := Aside0.mk (blk_below h4 hb)
  have HN5 := Aside0.mk (blk_below h5 hb)
  have HV := Aside0.mk (Kd.R_reads' hv)
  have hlm := (Kd.R_reads' hv).2.2.2.1
  clear hB0 h4 h5 hb hv hW0 hB1
  go_wp2_with fail
  have hls : (j : Int) ≤ 9223372036854775806 := by have := HJ.out; omega
  have k45 := blk_cell HN4.out 5
  have k50 := blk_cell HN5.out 0
  go_loopw [13] (fun v13 wr => ∃ i : Nat, i ≤ j ∧ v13 = .int .i64 (i : Int) ∧ wr = w1) (fun v13 _ => j + 1 - (intOf v13).toNat)
  case atStart => exact ⟨0, by omega, rfl, rfl⟩
  case round =>
    obtain ⟨i, hi, rfl, rfl⟩ := hrel
    have hd : decide ((i : Int) < (ls.length : Int)) = true := by have := HJ.out; simp; omega
    have q1 : (i : Int) < (ls.length : Int) := by have := HJ.out; omega
    obtain ⟨ad, hAd, hx⟩ := Kd.at_int HV.out.2.2 (i : Int) (by omega) (by have := HJ.out; omega)
    subst hAd
    rw [Int.toNat_natCast] at hx
    by_cases hij : i < j
    · have hne : (rd ls (i : Int) == e2) = false := by have := HNE.out i hij; simpa using this
      clear hlm
      go_wp2_with fail
      go_roundw
      case rel => exact ⟨i + 1, by omega, by go_num, trivial⟩
      case measure => simp only [intOf]; omega
    · obtain rfl : i = j := by omega
      have hne : (rd ls (i : Int) == e2) = true := by have := HEQ.out; simpa using this
      have hd5 : decide (i < l5.length) = true := decide_eq_true HJ5.out
      have q5 : (i : Int) < (l5.length : Int) := by have := HJ5.out; omega
      obtain ⟨ad5, Al, cl, hA5, hx5, hlc, hLC⟩ := at_L1 HR5.out (i : Int) (by omega) q5
      subst hA5
      rw [Int.toNat_natCast] at hx5
      have hx5w := (HB1.out.cell (World.block_lt_of_cell? w _ hx5)).trans hx5
      have hkeep : ∀ w' : World, Below wr.heap.size wr w' → (Below wr.heap.size wr w' ∧ w'.cell? ⟨w.heap.size, 5, none⟩ = some (.slice (some ad5) l5.length c5) ∧ w'.cell? (ad5.add i) = some (.slice Al (rd_L1 l5 (i : Int)).length cl) ∧ w'.cell? ⟨w.heap.size + 1, 0, none⟩ = some (.int .i64 e2) ∧ w'.cell? ⟨w.heap.size + 1, 1, none⟩ = some (.int .i64 t2) ∧ w'.cell? ⟨w.heap.size + 1, 2, none⟩ = some (.slice B2 m2.length d2) ∧ w'.cell? ⟨w.heap.size + 1, 3, none⟩ = some (.int .i64 n2) ∧ w'.cell? ⟨w.heap.size + 1, 4, none⟩ = some (.slice B4 m4.length d4) ∧ w'.cell? ⟨w.heap.size + 1, 5, none⟩ = some (.slice B5 m5.length d5) ∧ (convert 33 9 (.slice Al (rd_L1 l5 (i : Int)).length cl)).run Tryd.prog w' = .ok (.string (strOfNums (rd_L1 l5 (i : Int)))) w') := fun w' hb => by
        have n4 := blk_below HN4.out hb
        have n5 := blk_below HN5.out hb
        have hwb : Below w.heap.size w w' := HB1.out.trans (hb.mono HB1.out.size)
        exact ⟨hb, blk_cell n4 5, (hb.cell (World.block_lt_of_cell? wr _ hx5w)).trans hx5w, blk_cell n5 0, blk_cell n5 1, blk_cell n5 2, blk_cell n5 3, blk_cell n5 4, blk_cell n5 5, Kd.C_string (P := Tryd.prog) (A := Al) (c := cl) Tryd.underlying33 Tryd.underlying5 Tryd.underlying9 (Kd.C_below hLC hwb)⟩
      have HKEEP := Aside0.mk hkeep
      have HLC := Aside0.mk hLC
      clear hx5 hlc hLC hkeep
      go_wp2_with fail
      clear k45 k50 hx hd q1 hne hd5 hx5w
      obtain ⟨s1, s2, s3, s4, s5, s6, s7, s8, s9, s10⟩ := HKEEP.out wr (Below.refl _ _)
      go_region_held (fun w' => Below wr.heap.size wr w' ∧ w'.cell? ⟨w.heap.size, 5, none⟩ = some (.slice (some ad5) l5.length c5) ∧ w'.cell? (ad5.add i) = some (.slice Al (rd_L1 l5 (i : Int)).length cl) ∧ w'.cell? ⟨w.heap.size + 1, 0, none⟩ = some (.int .i64 e2) ∧ w'.cell? ⟨w.heap.size + 1, 1, none⟩ = some (.int .i64 t2) ∧ w'.cell? ⟨w.heap.size + 1, 2, none⟩ = some (.slice B2 m2.length d2) ∧ w'.cell? ⟨w.heap.size + 1, 3, none⟩ = some (.int .i64 n2) ∧ w'.cell? ⟨w.heap.size + 1, 4, none⟩ = some (.slice B4 m4.length d4) ∧ w'.cell? ⟨w.heap.size + 1, 5, none⟩ = some (.slice B5 m5.length d5) ∧ (convert 33 9 (.slice Al (rd_L1 l5 (i : Int)).length cl)).run Tryd.prog w' = .ok (.string (strOfNums (rd_L1 l5 (i : Int)))) w') (first | exact HKEEP.out _ (below_drew (Below.refl _ _)) | exact HKEEP.out _ (keep_trans (And.left (by assumption)) (by assumption)) | exact HKEEP.out _ (And.left (by assumption))) (first | (go_at_call 33; ((with_reducible refine (annalsref13_Hash.calls k a0 e2 t2 B2 d2 m2 n2 B4 d4 m4 B5 d5 m5 hr _ ?q2 HC2.out ?q4 HC4.out ?q5 HC5.out HH.out).mono ?_)); (case q2 => exact Kd.C_below HM2.out (HB1.out.trans (Below.mono (And.left (show Below wr.heap.size wr _ ∧ _ by assumption)) HB1.out.size))); (case q4 => exact Kd.C_below HM4.out (HB1.out.trans (Below.mono (And.left (show Below wr.heap.size wr _ ∧ _ by assumption)) HB1.out.size))); (case q5 => exact Kd.C_below HM5.out (HB1.out.trans (Below.mono (And.left (show Below wr.heap.size wr _ ∧ _ by assumption)) HB1.out.size))); rintro e w2 ⟨v, rfl, hV, hB⟩; obtain ⟨Ah, ch, rfl⟩ := Kd.R_slice hV; have hcv := Kd.C_string (P := Tryd.prog) (A := Ah) (c := ch) Tryd.underlying33 Tryd.underlying5 Tryd.underlying9 (Kd.R_reads' hV).2.2; clear hV))
      go_wp2_with fail
      go_ret
      exact ⟨rfl, HB1.out.trans (Below.mono (And.left (show Below wr.heap.size wr _ ∧ _ by assumption)) HB1.out.size)⟩
end Go.Proofs.YteamljekjncbfaaDoor.P
end
