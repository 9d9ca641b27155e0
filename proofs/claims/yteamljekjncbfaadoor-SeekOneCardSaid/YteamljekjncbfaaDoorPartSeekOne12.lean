/- Lemmas of this claim, part 12. -/
import Derived.Test.YteamljekjncbfaaDoorPartSeekOne2
import Derived.Test.YteamljekjncbfaaDoorPartSeekOne11
import Derived.Test.YteamljekjncbfaaDoorPartSeekOne7
import Derived.WalkSpells
import Derived.WalkLawsBesides
section
namespace Go.Proofs.YteamljekjncbfaaDoor.P
open Go.RowKit Go.Proofs.YteamljekjncbfaaDoorW.PrintWords Go.Proofs.YteamljekjncbfaaDoorW.PrintLast Go.Proofs.YteamljekjncbfaaDoorW.PrintMore
attribute [local go_sem] max2_int min2_int max_two min_two max_three min_three max_four min_four
set_option linter.unusedVariables false
set_option linter.unusedSimpArgs false
def record_Hash.f (k : Nat) (a0 : Int) (a1_0 : Int) (a1_1 : Int) (l1_2 : List Int) (a1_3 : Int) (l1_4 : List Int) (l1_5 : List (List Int)) : Option (List Int) := (record_Encode.f k a0 a1_0 a1_1 l1_2 a1_3 l1_4 l1_5).bind fun bt299 => (if bt299.2 = 0 then ((texts_Hash.f k a0 5 (([bt299.1] : List (List Int)))).bind fun t306 => (some t306)) else (some ([] : List Int)))
set_option maxHeartbeats 8000000 in
set_option maxRecDepth 100000 in
theorem record_Hash.calls (k : Nat) (a0 : Int) (a1_0 : Int) (a1_1 : Int) (A1_2 : Option Addr) (c1_2 : Nat) (l1_2 : List Int) (a1_3 : Int) (A1_4 : Option Addr) (c1_4 : Nat) (l1_4 : List Int) (A1_5 : Option Addr) (c1_5 : Nat) (l1_5 : List (List Int)) (r : List Int) (w : World) (hr1_2 : Kd.C (Kd.int .u8) w A1_2 l1_2.length l1_2) (hc1_2 : l1_2.length ≤ c1_2) (hr1_4 : Kd.C (Kd.int .u8) w A1_4 l1_4.length l1_4) (hc1_4 : l1_4.length ≤ c1_4) (hr1_5 : Kd.C (Kd.slice 5 (Kd.int .u8)) w A1_5 l1_5.length l1_5) (hc1_5 : l1_5.length ≤ c1_5) (hGT : GlobT w) (hGS : GlobS w) (h : record_Hash.f k a0 a1_0 a1_1 l1_2 a1_3 l1_4 l1_5 = some r) :
    Calls Tryd.prog 62 #[.int .i64 a0, .agg #[.int .i64 a1_0, .int .i64 a1_1, .slice A1_2 l1_2.length c1_2, .int .i64 a1_3, .slice A1_4 l1_4.length c1_4, .slice A1_5 l1_5.length c1_5]] w fun e w' => ∃ v0_ : Value, e = .returned (v0_) ∧ Kd.V (Kd.int .u8) 5 w' w.heap.size (fun k_ => (w.heap.size ≤ k_)) v0_ r ∧ Below w.heap.size w w' := by
  have HGT := Aside0.mk hGT
  clear hGT
  have HGS := Aside0.mk hGS
  clear hGS
  have hu40 := Tryd.underlying40
  have HR1_2 := Aside0.mk hr1_2
  have HC1_2 := Aside0.mk hc1_2
  clear hr1_2 hc1_2
  have HR1_4 := Aside0.mk hr1_4
  have HC1_4 := Aside0.mk hc1_4
  clear hr1_4 hc1_4
  have HR1_5 := Aside0.mk hr1_5
  have HC1_5 := Aside0.mk hc1_5
  clear hr1_5 hc1_5
  have HB := Aside0.mk (Below.refl w.heap.size w)
  have H : ((record_Encode.f k a0 a1_0 a1_1 l1_2 a1_3 l1_4 l1_5).bind fun bt299 => (if bt299.2 = 0 then ((texts_Hash.f k a0 5 (([bt299.1] : List (List Int)))).bind fun t306 => (some t306)) else (some ([] : List Int)))) = some r := h
  clear h
  replace H := Option.bind_eq_some_iff.mp H
  obtain ⟨⟨t299, t302⟩, A30, H⟩ := H
  replace H : (if t302 = 0 then ((texts_Hash.f k a0 5 (([t299] : List (List Int)))).bind fun t306 => (some t306)) else (some ([] : List Int))) = some r := H
  have A3 := Aside0.mk A30
  clear A30
  by_cases c4 : t302 = 0
  · rw [if_pos c4] at H
    have c4b0 : (t302 == 0) = true := beq_iff_eq.mpr c4
    have c4b1 : (t302 != 0) = false := bne_eq_false_iff_eq.mpr c4
    clear c4
    obtain ⟨y303, hy303⟩ : ∃ y_ : List (List Int), y_ = (([t299] : List (List Int))) := ⟨_, rfl⟩
    replace H : ((texts_Hash.f k a0 5 y303).bind fun t306 => (some t306)) = some r := by first | (rw [hy303]; with_reducible exact H) | (have H2_ := (Option.bind_some _ _).symm.trans H; rw [hy303]; with_reducible exact H2_) | (have H2_ := (Option.bind_some _ _).symm.trans H; with_reducible exact H2_) | with_reducible exact H | (rw [hy303]; exact H) | exact H
    have Ny303 := Aside0.mk hy303
    clear hy303
    replace H := Option.bind_eq_some_iff.mp H
    obtain ⟨t306, A50, H⟩ := H
    replace H : (some t306) = some r := H
    have A5 := Aside0.mk A50
    clear A50
    obtain rfl := Option.some.inj H
    go_enter Tryd.func62, Tryd.ntmps62
    go_wp2_with (first | ((with_reducible refine gate_dst (N := 3) rfl ?_); refine box_event ?hg (N := 3) ?hd (cs := #[.int .i64 a1_0, .int .i64 a1_1, .slice A1_2 l1_2.length c1_2, .int .i64 a1_3, .slice A1_4 l1_4.length c1_4, .slice A1_5 l1_5.length c1_5]) (t := 40) ?hr ?_; (case hd => rfl); (case hg => rfl); (case hr => first | (go_simp; done) | (go_simp; rfl)); intro gb298 hg w6 hbox hb; have n0_ := Aside0.mk (below_step (by repeat (first | (with_reducible first | exact HB.out | apply below_alloc | apply pw_below_drewN | apply below_drew1) | exact HB.out)) hb); have n1_ := Aside0.mk (hbox); have n2_ := Aside0.mk ((by rw [hg]; exact (below_size (by repeat (first | (with_reducible first | exact HB.out | apply below_alloc | apply pw_below_drewN | apply below_drew1) | exact HB.out))) : w.heap.size ≤ gb298)); have n3_ := Aside0.mk ((by rw [hg]; exact (below_size (by repeat (first | (with_reducible first | exact HB.out | apply below_alloc | apply pw_below_drewN | apply below_drew1) | exact HB.out))) : w.heap.size ≤ gb298)); clear HB; have HB := n0_; have BK298 := n1_; have GW298 := n2_; have GE298 := n3_; clear n0_ n1_ n2_ n3_; clear hb hbox hg; have hcz7_0 : w6.cell? ⟨gb298, 0, none⟩ = some (.int .i64 a1_0) := (blk_cell BK298.out 0).trans rfl; have hcz7_1 : w6.cell? ⟨gb298, 1, none⟩ = some (.int .i64 a1_1) := (blk_cell BK298.out 1).trans rfl; have hcz7_2 : w6.cell? ⟨gb298, 2, none⟩ = some (.slice A1_2 l1_2.length c1_2) := (blk_cell BK298.out 2).trans rfl; have hcz7_3 : w6.cell? ⟨gb298, 3, none⟩ = some (.int .i64 a1_3) := (blk_cell BK298.out 3).trans rfl; have hcz7_4 : w6.cell? ⟨gb298, 4, none⟩ = some (.slice A1_4 l1_4.length c1_4) := (blk_cell BK298.out 4).trans rfl; have hcz7_5 : w6.cell? ⟨gb298, 5, none⟩ = some (.slice A1_5 l1_5.length c1_5) := (blk_cell BK298.out 5).trans rfl; have hfz7_0 := blk_frozen BK298.out 0; have hfz7_1 := blk_frozen BK298.out 1; have hfz7_2 := blk_frozen BK298.out 2; have hfz7_3 := blk_frozen BK298.out 3; have hfz7_4 := blk_frozen BK298.out 4; have hfz7_5 := blk_frozen BK298.out 5) | ((with_reducible refine gate_callee (f := 96) rfl ?_); refine goesL_ (some 10) rfl rfl Tryd.func96 (by kernel_rfl) rfl #[.int .i64 a0, .agg #[.int .i64 a1_0, .int .i64 a1_1, .slice A1_2 l1_2.length c1_2, .int .i64 a1_3, .slice A1_4 l1_4.length c1_4, .slice A1_5 l1_5.length c1_5]] rfl (by (try simp only [List.map_toArray, List.map_cons, List.map_nil]); first | done | rfl | (simp only [List.length_drop, List.length_take]; rfl)) ?_; (with_reducible refine (record_Encode.calls k a0 a1_0 a1_1 _ _ l1_2 a1_3 _ _ l1_4 _ _ l1_5 t299 t302 _ ?side1 ?side2 ?side3 ?side4 ?side5 ?side6 (by first | (with_reducible exact HGT.out) | exact GlobT.of HGT.out (by repeat (first | (with_reducible first | exact HB.out | apply below_alloc | apply pw_below_drewN | apply below_drew1) | exact HB.out)) | exact GlobT.of HGT.out (by repeat (first | exact Below.refl _ _ | apply below_alloc | apply pw_below_drewN | apply below_drew1))) A3.out).mono ?_); (case side1 => repeat (first | exact (Kd.C_below HR1_2.out HB.out) | (with_reducible refine Kd.C_alloc ?_ _) | (with_reducible refine Kd.C_drewN ?_ _) | (with_reducible refine Kd.C_drew ?_))); (case side2 => exact HC1_2.out); (case side3 => repeat (first | exact (Kd.C_below HR1_4.out HB.out) | (with_reducible refine Kd.C_alloc ?_ _) | (with_reducible refine Kd.C_drewN ?_ _) | (with_reducible refine Kd.C_drew ?_))); (case side4 => exact HC1_4.out); (case side5 => repeat (first | exact (Kd.C_below HR1_5.out HB.out) | (with_reducible refine Kd.C_alloc ?_ _) | (with_reducible refine Kd.C_drewN ?_ _) | (with_reducible refine Kd.C_drew ?_))); (case side6 => exact HC1_5.out); rintro e w8 ⟨v300, rfl, ho0, hb⟩; refine ⟨_, rfl, ?_⟩; have n0_ := Aside0.mk (Kd.R_lower (Kd.R_newM (M := fun k_ => (w.heap.size ≤ k_)) ho0 (below_size (by repeat (first | (with_reducible first | exact HB.out | apply below_alloc | apply pw_below_drewN | apply below_drew1 | refine below_set ?_ GE298.out) | exact HB.out))) (fun k_ h_ => h_)) (below_size (by repeat (first | (with_reducible first | exact HB.out | apply below_alloc | apply pw_below_drewN | apply below_drew1 | refine below_set ?_ GE298.out) | exact HB.out)))); have n1_ := Aside0.mk (blk_below (g := gb298) (o := .cells #[.int .i64 a1_0, .int .i64 a1_1, .slice A1_2 l1_2.length c1_2, .int .i64 a1_3, .slice A1_4 l1_4.length c1_4, .slice A1_5 l1_5.length c1_5] 40 (0, 0)) (by (with_reducible repeat (first | refine blk_drewN ?_ _ | refine blk_drew ?_ | refine blk_alloc ?_ _)); exact BK298.out) hb); have n2_ := Aside0.mk (below_step (by repeat (first | (with_reducible first | exact HB.out | apply below_alloc | apply pw_below_drewN | apply below_drew1 | refine below_set ?_ GE298.out) | exact HB.out)) hb); clear BK298; clear HB; have HO301 := n0_; have BK298 := n1_; have HB := n2_; clear n0_ n1_ n2_; (try clear hb); (try clear hb2); (try clear hk); (try clear hi); (try clear ho0); obtain ⟨Ao9, co9, eo9⟩ := Kd.R_slice HO301.out; subst eo9) | ((with_reducible refine gate_dst (N := 17) rfl ?_); refine Kd.N_lit (Kd.slice 5 (Kd.int .u8)) _ 33 ?hg (N' := 17) ?hd (xs := ([t299] : List (List Int))) (inner := [.slice Ao9 t299.length co9]) (ok := (fun k_ => (w.heap.size ≤ k_) ∧ k_ ≠ gb298)) (okp := (fun k_ => (w.heap.size ≤ k_) ∧ k_ ≠ gb298)) ?hr ?hp (fun _ hk => hk) ((show ∀ k_, w8.heap.size ≤ k_ → (fun k_ => (w.heap.size ≤ k_) ∧ k_ ≠ gb298) k_ from fun k_ hk => ⟨(Nat.le_trans (below_size (by repeat (first | (with_reducible first | exact HB.out | apply below_alloc | apply pw_below_drewN | apply below_drew1 | refine below_set ?_ GE298.out) | exact HB.out))) hk), Kd.freshB (g := gb298) (o := .cells #[.int .i64 a1_0, .int .i64 a1_1, .slice A1_2 l1_2.length c1_2, .int .i64 a1_3, .slice A1_4 l1_4.length c1_4, .slice A1_5 l1_5.length c1_5] 40 (0, 0)) (by (with_reducible repeat (first | refine blk_drewN ?_ _ | refine blk_drew ?_ | refine blk_alloc ?_ _)); exact BK298.out) k_ hk⟩) _ (Nat.le_refl _)) (Below.refl _ _) (Nat.le_refl _) (by simp) ?_; (case hd => rfl); (case hg => rfl); (case hr => first | (go_simp; done) | (go_simp; rfl)); (case hp => exact (Reps.one (show Kd.FK (Kd.slice 5 (Kd.int .u8)) _ _ t299 [.slice Ao9 t299.length co9] from (Kd.FK_slice_mk (Kd.R_reads' (Kd.R_mono (ok' := (fun k_ => (w.heap.size ≤ k_) ∧ k_ ≠ gb298)) (Kd.R_types (HO301.out) BK298.out (by decide)) (fun k_ hk => ⟨hk.1.1, hk.2⟩))).2.1 (Kd.R_F (Kd.R_mono (ok' := (fun k_ => (w.heap.size ≤ k_) ∧ k_ ≠ gb298)) (Kd.R_types (HO301.out) BK298.out (by decide)) (fun k_ hk => ⟨hk.1.1, hk.2⟩))))) (Reps.none _ _))); intro v304 w10 ho11 hb hg_ hnew_; clear hg_ hnew_; (first | rw [← Ny303.out] at ho11 | (simp only [Int.reduceToNat] at ho11; rw [← Ny303.out] at ho11)); have n0_ := Aside0.mk (Kd.N_lower ho11 (below_size (by repeat (first | (with_reducible first | exact HB.out | apply below_alloc | apply pw_below_drewN | apply below_drew1 | refine below_set ?_ GE298.out) | exact HB.out)))); have n1_ := Aside0.mk (blk_below (g := gb298) (o := .cells #[.int .i64 a1_0, .int .i64 a1_1, .slice A1_2 l1_2.length c1_2, .int .i64 a1_3, .slice A1_4 l1_4.length c1_4, .slice A1_5 l1_5.length c1_5] 40 (0, 0)) (by (with_reducible repeat (first | refine blk_drewN ?_ _ | refine blk_drew ?_ | refine blk_alloc ?_ _)); exact BK298.out) hb); have n2_ := Aside0.mk (below_step (by repeat (first | (with_reducible first | exact HB.out | apply below_alloc | apply pw_below_drewN | apply below_drew1 | refine below_set ?_ GE298.out) | exact HB.out)) hb); clear BK298; clear HB; clear HO301; have HO305 := n0_; have BK298 := n1_; have HB := n2_; clear n0_ n1_ n2_; clear hb ho11; obtain ⟨Ao12, co12, eo12⟩ := Kd.N_slice HO305.out; subst eo12) | ((with_reducible refine gate_callee (f := 55) rfl ?_); refine goesL_ (some 18) rfl rfl Tryd.func55 (by kernel_rfl) rfl #[.int .i64 a0, .int .i64 5, .slice Ao12 y303.length co12] rfl (by (try simp only [List.map_toArray, List.map_cons, List.map_nil]); first | done | rfl | (simp only [List.length_drop, List.length_take]; rfl)) ?_; (with_reducible refine (texts_Hash.calls k a0 5 _ _ y303 t306 _ ?side1 ?side2 (by first | (with_reducible exact HGS.out) | exact GlobS.of HGS.out (by repeat (first | (with_reducible first | exact HB.out | apply below_alloc | apply pw_below_drewN | apply below_drew1) | exact HB.out)) | exact GlobS.of HGS.out (by repeat (first | exact Below.refl _ _ | apply below_alloc | apply pw_below_drewN | apply below_drew1))) A5.out).mono ?_); (case side1 => repeat (first | exact (Kd.N_reads' HO305.out).2.2 | (with_reducible refine Kd.C_alloc ?_ _) | (with_reducible refine Kd.C_drewN ?_ _) | (with_reducible refine Kd.C_drew ?_))); (case side2 => exact (Kd.N_reads' HO305.out).2.1); rintro e w13 ⟨v307, rfl, ho0, hb⟩; refine ⟨_, rfl, ?_⟩; have n0_ := Aside0.mk (Kd.N_below (by (with_reducible repeat (first | apply Kd.N_alloc | apply Kd.N_drewN | apply Kd.N_drew)); exact HO305.out) hb); have n1_ := Aside0.mk (Kd.V_lower (Kd.V_mono (ok' := fun k_ => (w.heap.size ≤ k_) ∧ some k_ ≠ (.slice Ao12 y303.length co12 : Value).ownBlock ∧ k_ ≠ gb298) ho0 (fun k_ hk_ => ⟨(Nat.le_trans (below_size (by repeat (first | (with_reducible first | exact HB.out | apply below_alloc | apply pw_below_drewN | apply below_drew1 | refine below_set ?_ GE298.out) | exact HB.out))) hk_), (Kd.fresh' (Kd.N_lt (by (with_reducible repeat (first | apply Kd.N_alloc | apply Kd.N_drewN | apply Kd.N_drew)); exact HO305.out)) k_ hk_), (Kd.freshB (g := gb298) (o := .cells #[.int .i64 a1_0, .int .i64 a1_1, .slice A1_2 l1_2.length c1_2, .int .i64 a1_3, .slice A1_4 l1_4.length c1_4, .slice A1_5 l1_5.length c1_5] 40 (0, 0)) (by (with_reducible repeat (first | refine blk_drewN ?_ _ | refine blk_drew ?_ | refine blk_alloc ?_ _)); exact BK298.out) k_ hk_)⟩)) (below_size (by repeat (first | (with_reducible first | exact HB.out | apply below_alloc | apply pw_below_drewN | apply below_drew1 | refine below_set ?_ GE298.out) | exact HB.out)))); have n2_ := Aside0.mk (blk_below (g := gb298) (o := .cells #[.int .i64 a1_0, .int .i64 a1_1, .slice A1_2 l1_2.length c1_2, .int .i64 a1_3, .slice A1_4 l1_4.length c1_4, .slice A1_5 l1_5.length c1_5] 40 (0, 0)) (by (with_reducible repeat (first | refine blk_drewN ?_ _ | refine blk_drew ?_ | refine blk_alloc ?_ _)); exact BK298.out) hb); have n3_ := Aside0.mk (below_step (by repeat (first | (with_reducible first | exact HB.out | apply below_alloc | apply pw_below_drewN | apply below_drew1 | refine below_set ?_ GE298.out) | exact HB.out)) hb); clear HO305; clear BK298; clear HB; have HO305 := n0_; have HO308 := n1_; have BK298 := n2_; have HB := n3_; clear n0_ n1_ n2_ n3_; (try clear hb); (try clear hb2); (try clear hk); (try clear hi); (try clear ho0)))
    go_ret
    exact ⟨_, by first | rfl | (simp [errW_none, errW_some] <;> rfl) | (simp [*, errW_none, errW_some] <;> rfl), by (with_reducible repeat (first | apply Kd.V_alloc | apply Kd.V_drewN | apply Kd.V_drew)); exact Kd.V_mono HO308.out (fun _ hk => hk.1), by repeat (first | (with_reducible first | exact HB.out | apply below_alloc | apply pw_below_drewN | apply below_drew1 | refine below_set ?_ GE298.out) | exact HB.out)⟩
  · rw [if_neg c4] at H
    have c4b0 : (t302 == 0) = false := beq_eq_false_iff_ne.mpr c4
    have c4b1 : (t302 != 0) = true := bne_iff_ne.mpr c4
    obtain rfl := Option.some.inj H
    go_enter Tryd.func62, Tryd.ntmps62
    go_wp2_with (first | ((with_reducible refine gate_dst (N := 3) rfl ?_); refine box_event ?hg (N := 3) ?hd (cs := #[.int .i64 a1_0, .int .i64 a1_1, .slice A1_2 l1_2.length c1_2, .int .i64 a1_3, .slice A1_4 l1_4.length c1_4, .slice A1_5 l1_5.length c1_5]) (t := 40) ?hr ?_; (case hd => rfl); (case hg => rfl); (case hr => first | (go_simp; done) | (go_simp; rfl)); intro gb298 hg w14 hbox hb; have n0_ := Aside0.mk (below_step (by repeat (first | (with_reducible first | exact HB.out | apply below_alloc | apply pw_below_drewN | apply below_drew1) | exact HB.out)) hb); have n1_ := Aside0.mk (hbox); have n2_ := Aside0.mk ((by rw [hg]; exact (below_size (by repeat (first | (with_reducible first | exact HB.out | apply below_alloc | apply pw_below_drewN | apply below_drew1) | exact HB.out))) : w.heap.size ≤ gb298)); have n3_ := Aside0.mk ((by rw [hg]; exact (below_size (by repeat (first | (with_reducible first | exact HB.out | apply below_alloc | apply pw_below_drewN | apply below_drew1) | exact HB.out))) : w.heap.size ≤ gb298)); clear HB; have HB := n0_; have BK298 := n1_; have GW298 := n2_; have GE298 := n3_; clear n0_ n1_ n2_ n3_; clear hb hbox hg; have hcz15_0 : w14.cell? ⟨gb298, 0, none⟩ = some (.int .i64 a1_0) := (blk_cell BK298.out 0).trans rfl; have hcz15_1 : w14.cell? ⟨gb298, 1, none⟩ = some (.int .i64 a1_1) := (blk_cell BK298.out 1).trans rfl; have hcz15_2 : w14.cell? ⟨gb298, 2, none⟩ = some (.slice A1_2 l1_2.length c1_2) := (blk_cell BK298.out 2).trans rfl; have hcz15_3 : w14.cell? ⟨gb298, 3, none⟩ = some (.int .i64 a1_3) := (blk_cell BK298.out 3).trans rfl; have hcz15_4 : w14.cell? ⟨gb298, 4, none⟩ = some (.slice A1_4 l1_4.length c1_4) := (blk_cell BK298.out 4).trans rfl; have hcz15_5 : w14.cell? ⟨gb298, 5, none⟩ = some (.slice A1_5 l1_5.length c1_5) := (blk_cell BK298.out 5).trans rfl; have hfz15_0 := blk_frozen BK298.out 0; have hfz15_1 := blk_frozen BK298.out 1; have hfz15_2 := blk_frozen BK298.out 2; have hfz15_3 := blk_frozen BK298.out 3; have hfz15_4 := blk_frozen BK298.out 4; have hfz15_5 := blk_frozen BK298.out 5) | ((with_reducible refine gate_callee (f := 96) rfl ?_); refine goesL_ (some 10) rfl rfl Tryd.func96 (by kernel_rfl) rfl #[.int .i64 a0, .agg #[.int .i64 a1_0, .int .i64 a1_1, .slice A1_2 l1_2.length c1_2, .int .i64 a1_3, .slice A1_4 l1_4.length c1_4, .slice A1_5 l1_5.length c1_5]] rfl (by (try simp only [List.map_toArray, List.map_cons, List.map_nil]); first | done | rfl | (simp only [List.length_drop, List.length_take]; rfl)) ?_; (with_reducible refine (record_Encode.calls k a0 a1_0 a1_1 _ _ l1_2 a1_3 _ _ l1_4 _ _ l1_5 t299 t302 _ ?side1 ?side2 ?side3 ?side4 ?side5 ?side6 (by first | (with_reducible exact HGT.out) | exact GlobT.of HGT.out (by repeat (first | (with_reducible first | exact HB.out | apply below_alloc | apply pw_below_drewN | apply below_drew1) | exact HB.out)) | exact GlobT.of HGT.out (by repeat (first | exact Below.refl _ _ | apply below_alloc | apply pw_below_drewN | apply below_drew1))) A3.out).mono ?_); (case side1 => repeat (first | exact (Kd.C_below HR1_2.out HB.out) | (with_reducible refine Kd.C_alloc ?_ _) | (with_reducible refine Kd.C_drewN ?_ _) | (with_reducible refine Kd.C_drew ?_))); (case side2 => exact HC1_2.out); (case side3 => repeat (first | exact (Kd.C_below HR1_4.out HB.out) | (with_reducible refine Kd.C_alloc ?_ _) | (with_reducible refine Kd.C_drewN ?_ _) | (with_reducible refine Kd.C_drew ?_))); (case side4 => exact HC1_4.out); (case side5 => repeat (first | exact (Kd.C_below HR1_5.out HB.out) | (with_reducible refine Kd.C_alloc ?_ _) | (with_reducible refine Kd.C_drewN ?_ _) | (with_reducible refine Kd.C_drew ?_))); (case side6 => exact HC1_5.out); rintro e w16 ⟨v300, rfl, ho0, hb⟩; refine ⟨_, rfl, ?_⟩; have n0_ := Aside0.mk (Kd.R_lower (Kd.R_newM (M := fun k_ => (w.heap.size ≤ k_)) ho0 (below_size (by repeat (first | (with_reducible first | exact HB.out | apply below_alloc | apply pw_below_drewN | apply below_drew1 | refine below_set ?_ GE298.out) | exact HB.out))) (fun k_ h_ => h_)) (below_size (by repeat (first | (with_reducible first | exact HB.out | apply below_alloc | apply pw_below_drewN | apply below_drew1 | refine below_set ?_ GE298.out) | exact HB.out)))); have n1_ := Aside0.mk (blk_below (g := gb298) (o := .cells #[.int .i64 a1_0, .int .i64 a1_1, .slice A1_2 l1_2.length c1_2, .int .i64 a1_3, .slice A1_4 l1_4.length c1_4, .slice A1_5 l1_5.length c1_5] 40 (0, 0)) (by (with_reducible repeat (first | refine blk_drewN ?_ _ | refine blk_drew ?_ | refine blk_alloc ?_ _)); exact BK298.out) hb); have n2_ := Aside0.mk (below_step (by repeat (first | (with_reducible first | exact HB.out | apply below_alloc | apply pw_below_drewN | apply below_drew1 | refine below_set ?_ GE298.out) | exact HB.out)) hb); clear BK298; clear HB; have HO301 := n0_; have BK298 := n1_; have HB := n2_; clear n0_ n1_ n2_; (try clear hb); (try clear hb2); (try clear hk); (try clear hi); (try clear ho0)))
    go_ret
    exact ⟨_, by first | rfl | (simp [errW_none, errW_some] <;> rfl) | (simp [*, errW_none, errW_some] <;> rfl), (by first | exact Kd.V_nil _ _ _ _ _ | exact Kd.R_V (by first | exact Kd.R_nil _ _ _ _ _ | exact Kd.N_nil _ _ _ _ _ | exact Kd.Q_nil _ _ _ _ _ | exact Kd.S_nil _ _ _ _ _)), by repeat (first | (with_reducible first | exact HB.out | apply below_alloc | apply pw_below_drewN | apply below_drew1 | refine below_set ?_ GE298.out) | exact HB.out)⟩
end Go.Proofs.YteamljekjncbfaaDoor.P
end
section
set_option linter.unusedVariables false
set_option linter.unusedSimpArgs false
namespace Go.Proofs.YteamljekjncbfaaDoor.P
open Go.RowKit Go.Proofs.YteamljekjncbfaaDoorW.PrintWords Go.Proofs.YteamljekjncbfaaDoorW.PrintLast Go.Proofs.YteamljekjncbfaaDoorW.PrintMore
theorem drawn1_quiet {P : Program} {f : FuncId} {args : Array Value} {w : World} {n : Nat} {v : Value} (h : Calls P f args (w.drewN n) fun e w' => e = .returned v ∧ Drawn0 (w.drewN n) w') :
    Calls P f args (w.drewN n) fun e w'' => e = .returned v ∧ ∃ m, w'' = w.drewN m := h.mono fun _ _ ⟨he, hd⟩ => by
    obtain ⟨m, hm⟩ := hd.out
    exact ⟨he, n + m, by rw [hm, World.drewN_drewN]⟩
end Go.Proofs.YteamljekjncbfaaDoor.P
end
section
namespace Go.Proofs.YteamljekjncbfaaDoor.P
open Go.RowKit Go.Proofs.YteamljekjncbfaaDoorW.PrintWords Go.Proofs.YteamljekjncbfaaDoorW.PrintLast Go.Proofs.YteamljekjncbfaaDoorW.PrintMore
attribute [local go_sem] max2_int min2_int max_two min_two max_three min_three max_four min_four
set_option linter.unusedVariables false
set_option linter.unusedSimpArgs false
def annalsref13_Links.l0 : Nat → Int → Int → Int → Option (Int)
  | 0, _, _, _ => none
  | k + 1, x0, x3, x4 => if x4 > 0 then (if x4 ≤ x0 then (if x4 = 0 then (none) else (if (Int.tmod x0 x4) = 0 then (annalsref13_Links.l0 k x0 (wrap64 (x3 + 1)) (wrap64 (2 * x4))) else (some x3))) else (some x3)) else (some x3)
def annalsref13_Links.f (k : Nat) (a0 : Int) : Option (Int) := annalsref13_Links.l0 k a0 0 1
set_option maxHeartbeats 8000000 in
set_option maxRecDepth 100000 in
theorem annalsref13_Links.calls (k : Nat) (a0 : Int) (r : Int) (w : World) (h : annalsref13_Links.f k a0 = some r) :
    Calls Tryd.prog 98 #[.int .i64 a0] w fun e w' => e = .returned (.int .i64 r) ∧ Drawn0 w w' := by
  have H : (annalsref13_Links.l0 k a0 0 1) = some r := h
  clear h
  have H' := Aside0.mk H
  clear H
  go_enter Tryd.func98, Tryd.ntmps98
  go_wp2
  go_loopg [3, 4] k (fun kq v3 v4 w' => ∃ (x3_1 : Int) (x4_1 : Int), v3 = .int .i64 x3_1 ∧ v4 = .int .i64 x4_1 ∧ Aside0 (annalsref13_Links.l0 kq a0 x3_1 x4_1 = some r) ∧ Aside0 (kq ≤ k) ∧ Drawn0 w w')
  case atStart => exact ⟨(0), (1), (by first | rfl | (simp; done) | (simp [*]; done)), (by first | rfl | (simp; done) | (simp [*]; done)), H', ⟨Nat.le_refl _⟩, by repeat (first | exact Drawn0.refl _ | apply Drawn0.step)⟩
  case round =>
    clear H'
    obtain ⟨x3_1, x4_1, rfl, rfl, HA, HK1, ⟨m1, rfl⟩⟩ := hrel
    cases gk with
    | zero => exact absurd HA.out (by simp [annalsref13_Links.l0])
    | succ k1 =>
      have H := HA.out
      clear HA
      simp only [annalsref13_Links.l0] at H
      by_cases c2 : x4_1 > 0
      · rw [if_pos c2] at H
        have c2b0 : decide (0 < x4_1) = true := decide_eq_true c2
        clear c2
        by_cases c3 : x4_1 ≤ a0
        · rw [if_pos c3] at H
          have c3b0 : decide (x4_1 ≤ a0) = true := decide_eq_true c3
          clear c3
          by_cases c4 : x4_1 = 0
          · rw [if_pos c4] at H
            exact absurd H (by simp)
          · rw [if_neg c4] at H
            have c4b0 : (x4_1 == 0) = false := beq_eq_false_iff_ne.mpr c4
            have c4b1 : (x4_1 != 0) = true := bne_iff_ne.mpr c4
            by_cases c5 : (Int.tmod a0 x4_1) = 0
            · rw [if_pos c5] at H
              have c5b0 : ((Int.tmod a0 x4_1) == 0) = true := beq_iff_eq.mpr c5
              have c5b1 : ((Int.tmod a0 x4_1) != 0) = false := bne_eq_false_iff_eq.mpr c5
              clear c5
              have H' := Aside0.mk H
              clear H
              go_wp2
              go_roundg k1
              case measure => have := HK1.out; omega
              case rel => exact ⟨(wrap64 (x3_1 + 1)), (wrap64 (2 * x4_1)), (by first | rfl | (simp; done) | (simp [*]; done)), (by first | rfl | (simp; done) | (simp [*]; done)), H', ⟨by have := HK1.out; omega⟩, by repeat (first | exact Drawn0.refl _ | apply Drawn0.step)⟩
            · rw [if_neg c5] at H
              have c5b0 : ((Int.tmod a0 x4_1) == 0) = false := beq_eq_false_iff_ne.mpr c5
              have c5b1 : ((Int.tmod a0 x4_1) != 0) = true := bne_iff_ne.mpr c5
              obtain rfl := Option.some.inj H
              go_wp2
              go_ret
              exact ⟨by first | rfl | (simp; done) | (simp [*]; done), by repeat (first | exact Drawn0.refl _ | apply Drawn0.step)⟩
        · rw [if_neg c3] at H
          have c3b0 : decide (x4_1 ≤ a0) = false := decide_eq_false c3
          clear c3
          obtain rfl := Option.some.inj H
          go_wp2
          go_ret
          exact ⟨by first | rfl | (simp; done) | (simp [*]; done), by repeat (first | exact Drawn0.refl _ | apply Drawn0.step)⟩
      · rw [if_neg c2] at H
        have c2b0 : decide (0 < x4_1) = false := decide_eq_false c2
        clear c2
        obtain rfl := Option.some.inj H
        go_wp2
        go_ret
        exact ⟨by first | rfl | (simp; done) | (simp [*]; done), by repeat (first | exact Drawn0.refl _ | apply Drawn0.step)⟩
end Go.Proofs.YteamljekjncbfaaDoor.P
end
section
set_option linter.unusedVariables false
set_option linter.unusedSimpArgs false
namespace Go.Proofs.YteamljekjncbfaaDoor.P
open Go.RowKit Go.Proofs.YteamljekjncbfaaDoorW.PrintWords Go.Proofs.YteamljekjncbfaaDoorW.PrintLast Go.Proofs.YteamljekjncbfaaDoorW.PrintMore
set_option maxHeartbeats 1000000 in
set_option maxRecDepth 100000 in
theorem can_no0 (a0 e t c : Int) (A2 A4 A5 : Option Addr) (c2 c4 c5 : Nat) (l2 l4 : List Int) (l5 : List (List Int)) (w : World) (h0a : decide (a0 < 1) = true) :
    Calls Tryd.prog 64 #[.int .i64 a0, .agg #[.int .i64 e, .int .i64 t, .slice A2 l2.length c2, .int .i64 c, .slice A4 l4.length c4, .slice A5 l5.length c5]] w fun e w' => e = .returned (.bool false) ∧ Below w.heap.size w w' := by
  go_enter Tryd.func64, Tryd.ntmps64
  go_wp2_with fail
  go_quiet (fail)
  go_wp2_with fail
  go_ret
  exact ⟨rfl, pw_below_drewN (below_alloc (Below.refl _ _) _) _⟩
set_option maxHeartbeats 1000000 in
set_option maxRecDepth 100000 in
theorem can_no1 (a0 e t c : Int) (A2 A4 A5 : Option Addr) (c2 c4 c5 : Nat) (l2 l4 : List Int) (l5 : List (List Int)) (w : World) (h0a : decide (a0 < 1) = false) (h1a : decide (32 < a0) = true) :
    Calls Tryd.prog 64 #[.int .i64 a0, .agg #[.int .i64 e, .int .i64 t, .slice A2 l2.length c2, .int .i64 c, .slice A4 l4.length c4, .slice A5 l5.length c5]] w fun e w' => e = .returned (.bool false) ∧ Below w.heap.size w w' := by
  go_enter Tryd.func64, Tryd.ntmps64
  go_wp2_with fail
  go_quiet (fail)
  go_wp2_with fail
  go_ret
  exact ⟨rfl, pw_below_drewN (below_alloc (Below.refl _ _) _) _⟩
set_option maxHeartbeats 1000000 in
set_option maxRecDepth 100000 in
theorem can_no2 (a0 e t c : Int) (A2 A4 A5 : Option Addr) (c2 c4 c5 : Nat) (l2 l4 : List Int) (l5 : List (List Int)) (w : World) (h0a : decide (a0 < 1) = false) (h1a : decide (32 < a0) = false) (h2a : decide (e < 0) = true) :
    Calls Tryd.prog 64 #[.int .i64 a0, .agg #[.int .i64 e, .int .i64 t, .slice A2 l2.length c2, .int .i64 c, .slice A4 l4.length c4, .slice A5 l5.length c5]] w fun e w' => e = .returned (.bool false) ∧ Below w.heap.size w w' := by
  go_enter Tryd.func64, Tryd.ntmps64
  go_wp2_with fail
  go_quiet (fail)
  go_wp2_with fail
  go_ret
  exact ⟨rfl, pw_below_drewN (below_alloc (Below.refl _ _) _) _⟩
set_option maxHeartbeats 1000000 in
set_option maxRecDepth 100000 in
theorem can_no3 (a0 e t c : Int) (A2 A4 A5 : Option Addr) (c2 c4 c5 : Nat) (l2 l4 : List Int) (l5 : List (List Int)) (w : World) (h0a : decide (a0 < 1) = false) (h1a : decide (32 < a0) = false) (h2a : decide (e < 0) = false) (h3a : decide (255 < e) = true) :
    Calls Tryd.prog 64 #[.int .i64 a0, .agg #[.int .i64 e, .int .i64 t, .slice A2 l2.length c2, .int .i64 c, .slice A4 l4.length c4, .slice A5 l5.length c5]] w fun e w' => e = .returned (.bool false) ∧ Below w.heap.size w w' := by
  go_enter Tryd.func64, Tryd.ntmps64
  go_wp2_with fail
  go_quiet (fail)
  go_wp2_with fail
  go_ret
  exact ⟨rfl, pw_below_drewN (below_alloc (Below.refl _ _) _) _⟩
set_option maxHeartbeats 1000000 in
set_option maxRecDepth 100000 in
theorem can_no4 (a0 e t c : Int) (A2 A4 A5 : Option Addr) (c2 c4 c5 : Nat) (l2 l4 : List Int) (l5 : List (List Int)) (w : World) (h0a : decide (a0 < 1) = false) (h1a : decide (32 < a0) = false) (h2a : decide (e < 0) = false) (h3a : decide (255 < e) = false) (h4a : decide (t < 0) = true) :
    Calls Tryd.prog 64 #[.int .i64 a0, .agg #[.int .i64 e, .int .i64 t, .slice A2 l2.length c2, .int .i64 c, .slice A4 l4.length c4, .slice A5 l5.length c5]] w fun e w' => e = .returned (.bool false) ∧ Below w.heap.size w w' := by
  go_enter Tryd.func64, Tryd.ntmps64
  go_wp2_with fail
  go_quiet (fail)
  go_wp2_with fail
  go_ret
  exact ⟨rfl, pw_below_drewN (below_alloc (Below.refl _ _) _) _⟩
set_option maxHeartbeats 1000000 in
set_option maxRecDepth 100000 in
theorem can_no5 (a0 e t c : Int) (A2 A4 A5 : Option Addr) (c2 c4 c5 : Nat) (l2 l4 : List Int) (l5 : List (List Int)) (w : World) (h0a : decide (a0 < 1) = false) (h1a : decide (32 < a0) = false) (h2a : decide (e < 0) = false) (h3a : decide (255 < e) = false) (h4a : decide (t < 0) = false) (h5a : decide (1125899906842624 < t) = true) :
    Calls Tryd.prog 64 #[.int .i64 a0, .agg #[.int .i64 e, .int .i64 t, .slice A2 l2.length c2, .int .i64 c, .slice A4 l4.length c4, .slice A5 l5.length c5]] w fun e w' => e = .returned (.bool false) ∧ Below w.heap.size w w' := by
  go_enter Tryd.func64, Tryd.ntmps64
  go_wp2_with fail
  go_quiet (fail)
  go_wp2_with fail
  go_ret
  exact ⟨rfl, pw_below_drewN (below_alloc (Below.refl _ _) _) _⟩
set_option maxHeartbeats 1000000 in
set_option maxRecDepth 100000 in
theorem can_no6 (a0 e t c : Int) (A2 A4 A5 : Option Addr) (c2 c4 c5 : Nat) (l2 l4 : List Int) (l5 : List (List Int)) (w : World) (h0a : decide (a0 < 1) = false) (h1a : decide (32 < a0) = false) (h2a : decide (e < 0) = false) (h3a : decide (255 < e) = false) (h4a : decide (t < 0) = false) (h5a : decide (1125899906842624 < t) = false) (h6a : decide (c < 0) = true) :
    Calls Tryd.prog 64 #[.int .i64 a0, .agg #[.int .i64 e, .int .i64 t, .slice A2 l2.length c2, .int .i64 c, .slice A4 l4.length c4, .slice A5 l5.length c5]] w fun e w' => e = .returned (.bool false) ∧ Below w.heap.size w w' := by
  go_enter Tryd.func64, Tryd.ntmps64
  go_wp2_with fail
  go_quiet (fail)
  go_wp2_with fail
  go_ret
  exact ⟨rfl, pw_below_drewN (below_alloc (Below.refl _ _) _) _⟩
set_option maxHeartbeats 1000000 in
set_option maxRecDepth 100000 in
theorem can_no7 (a0 e t c : Int) (A2 A4 A5 : Option Addr) (c2 c4 c5 : Nat) (l2 l4 : List Int) (l5 : List (List Int)) (w : World) (h0a : decide (a0 < 1) = false) (h1a : decide (32 < a0) = false) (h2a : decide (e < 0) = false) (h3a : decide (255 < e) = false) (h4a : decide (t < 0) = false) (h5a : decide (1125899906842624 < t) = false) (h6a : decide (c < 0) = false) (h7a : decide (32 < c) = true) :
    Calls Tryd.prog 64 #[.int .i64 a0, .agg #[.int .i64 e, .int .i64 t, .slice A2 l2.length c2, .int .i64 c, .slice A4 l4.length c4, .slice A5 l5.length c5]] w fun e w' => e = .returned (.bool false) ∧ Below w.heap.size w w' := by
  go_enter Tryd.func64, Tryd.ntmps64
  go_wp2_with fail
  go_quiet (fail)
  go_wp2_with fail
  go_ret
  exact ⟨rfl, pw_below_drewN (below_alloc (Below.refl _ _) _) _⟩
set_option maxHeartbeats 1000000 in
set_option maxRecDepth 100000 in
theorem can_no8 (a0 e t c : Int) (A2 A4 A5 : Option Addr) (c2 c4 c5 : Nat) (l2 l4 : List Int) (l5 : List (List Int)) (w : World) (h0a : decide (a0 < 1) = false) (h1a : decide (32 < a0) = false) (h2a : decide (e < 0) = false) (h3a : decide (255 < e) = false) (h4a : decide (t < 0) = false) (h5a : decide (1125899906842624 < t) = false) (h6a : decide (c < 0) = false) (h7a : decide (32 < c) = false) (h8a : ((l2.length : Int) == a0) = false) (h8b : ((l2.length : Int) != a0) = true) :
    Calls Tryd.prog 64 #[.int .i64 a0, .agg #[.int .i64 e, .int .i64 t, .slice A2 l2.length c2, .int .i64 c, .slice A4 l4.length c4, .slice A5 l5.length c5]] w fun e w' => e = .returned (.bool false) ∧ Below w.heap.size w w' := by
  go_enter Tryd.func64, Tryd.ntmps64
  go_wp2_with fail
  go_quiet (fail)
  go_wp2_with fail
  go_ret
  exact ⟨rfl, pw_below_drewN (below_alloc (Below.refl _ _) _) _⟩
set_option maxHeartbeats 1000000 in
set_option maxRecDepth 100000 in
theorem can_no9 (a0 e t c : Int) (A2 A4 A5 : Option Addr) (c2 c4 c5 : Nat) (l2 l4 : List Int) (l5 : List (List Int)) (w : World) (h0a : decide (a0 < 1) = false) (h1a : decide (32 < a0) = false) (h2a : decide (e < 0) = false) (h3a : decide (255 < e) = false) (h4a : decide (t < 0) = false) (h5a : decide (1125899906842624 < t) = false) (h6a : decide (c < 0) = false) (h7a : decide (32 < c) = false) (h8a : ((l2.length : Int) == a0) = true) (h8b : ((l2.length : Int) != a0) = false) (h9a : ((l4.length : Int) == a0) = false) (h9b : ((l4.length : Int) != a0) = true) :
    Calls Tryd.prog 64 #[.int .i64 a0, .agg #[.int .i64 e, .int .i64 t, .slice A2 l2.length c2, .int .i64 c, .slice A4 l4.length c4, .slice A5 l5.length c5]] w fun e w' => e = .returned (.bool false) ∧ Below w.heap.size w w' := by
  go_enter Tryd.func64, Tryd.ntmps64
  go_wp2_with fail
  go_quiet (fail)
  go_wp2_with fail
  go_ret
  exact ⟨rfl, pw_below_drewN (below_alloc (Below.refl _ _) _) _⟩
set_option maxHeartbeats 1000000 in
set_option maxRecDepth 100000 in
theorem can_no10 (a0 e t c : Int) (A2 A4 A5 : Option Addr) (c2 c4 c5 : Nat) (l2 l4 : List Int) (l5 : List (List Int)) (w : World) (n : Int) (HL : Aside0 (∀ W : World, Calls Tryd.prog 98 #[.int .i64 e] W fun e' w' => e' = .returned (.int .i64 n) ∧ Drawn0 W w')) (h0a : decide (a0 < 1) = false) (h1a : decide (32 < a0) = false) (h2a : decide (e < 0) = false) (h3a : decide (255 < e) = false) (h4a : decide (t < 0) = false) (h5a : decide (1125899906842624 < t) = false) (h6a : decide (c < 0) = false) (h7a : decide (32 < c) = false) (h8a : ((l2.length : Int) == a0) = true) (h8b : ((l2.length : Int) != a0) = false) (h9a : ((l4.length : Int) == a0) = true) (h9b : ((l4.length : Int) != a0) = false) (h10a : ((l5.length : Int) == n) = false) (h10b : ((l5.length : Int) != n) = true) :
    Calls Tryd.prog 64 #[.int .i64 a0, .agg #[.int .i64 e, .int .i64 t, .slice A2 l2.length c2, .int .i64 c, .slice A4 l4.length c4, .slice A5 l5.length c5]] w fun e w' => e = .returned (.bool false) ∧ Below w.heap.size w w' := by
  go_enter Tryd.func64, Tryd.ntmps64
  go_wp2_with fail
  go_quiet ((go_at_call 98; (first | with_reducible exact drawn2_quiet (HL.out _) | with_reducible exact drawn1_quiet (HL.out _) | exact drawn0_quiet (HL.out _))))
  go_wp2_with fail
  go_ret
  exact ⟨rfl, pw_below_drewN (below_alloc (Below.refl _ _) _) _⟩
def sized (a0 : Int) (p : List Int) : Bool := decide ((p.length : Int) = a0)
set_option maxHeartbeats 2000000 in
set_option maxRecDepth 100000 in
theorem can_loop (a0 e t c : Int) (A2 A4 A5 : Option Addr) (c2 c4 c5 : Nat) (l2 l4 : List Int) (l5 : List (List Int)) (w : World) (n : Int) (HL : Aside0 (∀ W : World, Calls Tryd.prog 98 #[.int .i64 e] W fun e' w' => e' = .returned (.int .i64 n) ∧ Drawn0 W w')) (hr : Kd.C (Kd.slice 5 (Kd.int .u8)) w A5 l5.length l5) (h0a : decide (a0 < 1) = false) (h1a : decide (32 < a0) = false) (h2a : decide (e < 0) = false) (h3a : decide (255 < e) = false) (h4a : decide (t < 0) = false) (h5a : decide (1125899906842624 < t) = false) (h6a : decide (c < 0) = false) (h7a : decide (32 < c) = false) (h8a : ((l2.length : Int) == a0) = true) (h8b : ((l2.length : Int) != a0) = false) (h9a : ((l4.length : Int) == a0) = true) (h9b : ((l4.length : Int) != a0) = false) (h10a : ((l5.length : Int) == n) = true) (h10b : ((l5.length : Int) != n) = false) :
    Calls Tryd.prog 64 #[.int .i64 a0, .agg #[.int .i64 e, .int .i64 t, .slice A2 l2.length c2, .int .i64 c, .slice A4 l4.length c4, .slice A5 l5.length c5]] w fun e w' => e = .returned (.bool (l5.all (sized a0))) ∧ Below w.heap.size w w' := by
  have HR := Aside0.mk hr
  have HM := Aside0.mk hr.2.1
  clear hr
  go_enter Tryd.func64, Tryd.ntmps64
  go_wp2_with fail
  go_quiet ((go_at_call 98; (first | with_reducible exact drawn2_quiet (HL.out _) | with_reducible exact drawn1_quiet (HL.out _) | exact drawn0_quiet (HL.out _))))
  clear h0a h1a h2a h3a h4a h5a h6a h7a h8a h8b h9a h9b h10a h10b
  obtain ⟨W, hW⟩ : ∃ W, W = (w.alloc (.cells #[.int .i64 e, .int .i64 t, .slice A2 l2.length c2, .int .i64 c, .slice A4 l4.length c4, .slice A5 l5.length c5] 40)).drewN nq := ⟨_, rfl⟩
  rw [← hW]
  have hBW : Below w.heap.size w W := by rw [hW]; exact pw_below_drewN (below_alloc (Below.refl _ _) _) _
  have hcell : W.cell? ⟨w.heap.size, 5, none⟩ = some (.slice A5 l5.length c5) := by rw [hW]; exact blk_cell (heap_alloc_new w _) 5
  have HRW := Aside0.mk (Kd.C_below HR.out hBW)
  have HBW := Aside0.mk hBW
  clear hW hBW
  go_wp2_with fail
  go_loopw [69] (fun v69 wr => ∃ k : Nat, k ≤ l5.length ∧ v69 = .int .i64 (k : Int) ∧ wr = W ∧ Aside0 (l5.all (sized a0) = (l5.drop k).all (sized a0))) (fun v69 _ => l5.length - (intOf v69).toNat)
  case atStart => exact ⟨0, by omega, rfl, rfl, ⟨by rw [List.drop_zero]⟩⟩
  case round =>
    obtain ⟨k, hk, rfl, rfl, HA⟩ := hrel
    have hmm := HM.out
    by_cases hlt : k < l5.length
    · have hd : decide ((k : Int) < (l5.length : Int)) = true := by simp; omega
      obtain ⟨ad, A1, c1, rfl, hx, hc, hi⟩ := at_L1 HRW.out (k : Int) (by omega) (by omega)
      rw [Int.toNat_natCast] at hx
      have hdr : l5.drop k = rd_L1 l5 k :: l5.drop (k + 1) := by
        rw [List.drop_eq_getElem_cons hlt]
        unfold rd_L1
        rw [List.getD_eq_getElem?_getD, Int.toNat_natCast, List.getElem?_eq_getElem hlt]
        rfl
      have HDR := Aside0.mk hdr
      clear hdr hi hc hcell
      by_cases hL : ((rd_L1 l5 k).length : Int) = a0
      · have hdL : (((rd_L1 l5 k).length : Int) != a0) = false := by simp [hL]
        have HLL := Aside0.mk (show sized a0 (rd_L1 l5 k) = true from decide_eq_true hL)
        clear hL
        go_wp2_with fail
        have hall : l5.all (sized a0) = (l5.drop (k + 1)).all (sized a0) := by rw [HA.out, HDR.out, List.all_cons, HLL.out]; rfl
        go_roundw
        case rel => exact ⟨k + 1, by omega, by go_num, trivial, ⟨hall⟩⟩
        case measure => simp only [intOf]; omega
      · have hdL : (((rd_L1 l5 k).length : Int) != a0) = true := by simp [hL]
        have HLL := Aside0.mk (show sized a0 (rd_L1 l5 k) = false from decide_eq_false hL)
        clear hL
        go_wp2_with fail
        go_ret
        have hall : l5.all (sized a0) = false := by rw [HA.out, HDR.out, List.all_cons, HLL.out]; rfl
        exact ⟨by rw [hall]; rfl, HBW.out⟩
    · obtain rfl : k = l5.length := by omega
      have hd : decide ((l5.length : Int) < (l5.length : Int)) = false := by simp
      clear hcell
      go_wp2_with fail
      go_ret
      exact ⟨by rw [HA.out, List.drop_length]; rfl, HBW.out⟩
def canBad (a0 e t : Int) (l2 : List Int) (c : Int) (l4 : List Int) : Prop := a0 < 1 ∨ 32 < a0 ∨ e < 0 ∨ 255 < e ∨ t < 0 ∨ 1125899906842624 < t ∨ c < 0 ∨ 32 < c ∨ (l2.length : Int) ≠ a0 ∨ (l4.length : Int) ≠ a0
instance (a0 e t : Int) (l2 : List Int) (c : Int) (l4 : List Int) : Decidable (canBad a0 e t l2 c l4) := by unfold canBad; infer_instance
def annalsref13_Can.f (k : Nat) (a0 e t : Int) (l2 : List Int) (c : Int) (l4 : List Int) (l5 : List (List Int)) : Option Bool :=
  if canBad a0 e t l2 c l4 then some false else (annalsref13_Links.f k e).bind fun n => if (l5.length : Int) ≠ n then some false else some (l5.all (sized a0))
theorem annalsref13_Can.calls (k : Nat) (a0 : Int) (e t : Int) (A2 : Option Addr) (c2 : Nat) (l2 : List Int) (c : Int) (A4 : Option Addr) (c4 : Nat) (l4 : List Int) (A5 : Option Addr) (c5 : Nat) (l5 : List (List Int)) (r : Bool) (w : World)
    (hr1_2 : Kd.C (Kd.int .u8) w A2 l2.length l2) (hc1_2 : l2.length ≤ c2) (hr1_4 : Kd.C (Kd.int .u8) w A4 l4.length l4) (hc1_4 : l4.length ≤ c4) (hr1_5 : Kd.C (Kd.slice 5 (Kd.int .u8)) w A5 l5.length l5) (hc1_5 : l5.length ≤ c5) (h : annalsref13_Can.f k a0 e t l2 c l4 l5 = some r) :
    Calls Tryd.prog 64 #[.int .i64 a0, .agg #[.int .i64 e, .int .i64 t, .slice A2 l2.length c2, .int .i64 c, .slice A4 l4.length c4, .slice A5 l5.length c5]] w fun e w' => e = .returned (.bool r) ∧ Below w.heap.size w w' := by
  unfold annalsref13_Can.f at h
  by_cases k0 : a0 < 1
  · rw [if_pos (by unfold canBad; simp only [k0, true_or, or_true, ne_eq, not_true_eq_false, not_false_eq_true])] at h
    obtain rfl := Option.some.inj h
    exact can_no0 _ _ _ _ _ _ _ _ _ _ _ _ _ _ (by simpa using k0)
  by_cases k1 : 32 < a0
  · rw [if_pos (by unfold canBad; simp only [k1, true_or, or_true, ne_eq, not_true_eq_false, not_false_eq_true])] at h
    obtain rfl := Option.some.inj h
    exact can_no1 _ _ _ _ _ _ _ _ _ _ _ _ _ _ (by simpa using k0) (by simpa using k1)
  by_cases k2 : e < 0
  · rw [if_pos (by unfold canBad; simp only [k2, true_or, or_true, ne_eq, not_true_eq_false, not_false_eq_true])] at h
    obtain rfl := Option.some.inj h
    exact can_no2 _ _ _ _ _ _ _ _ _ _ _ _ _ _ (by simpa using k0) (by simpa using k1) (by simpa using k2)
  by_cases k3 : 255 < e
  · rw [if_pos (by unfold canBad; simp only [k3, true_or, or_true, ne_eq, not_true_eq_false, not_false_eq_true])] at h
    obtain rfl := Option.some.inj h
    exact can_no3 _ _ _ _ _ _ _ _ _ _ _ _ _ _ (by simpa using k0) (by simpa using k1) (by simpa using k2) (by simpa using k3)
  by_cases k4 : t < 0
  · rw [if_pos (by unfold canBad; simp only [k4, true_or, or_true, ne_eq, not_true_eq_false, not_false_eq_true])] at h
    obtain rfl := Option.some.inj h
    exact can_no4 _ _ _ _ _ _ _ _ _ _ _ _ _ _ (by simpa using k0) (by simpa using k1) (by simpa using k2) (by simpa using k3) (by simpa using k4)
  by_cases k5 : 1125899906842624 < t
  · rw [if_pos (by unfold canBad; simp only [k5, true_or, or_true, ne_eq, not_true_eq_false, not_false_eq_true])] at h
    obtain rfl := Option.some.inj h
    exact can_no5 _ _ _ _ _ _ _ _ _ _ _ _ _ _ (by simpa using k0) (by simpa using k1) (by simpa using k2) (by simpa using k3) (by simpa using k4) (by simpa using k5)
  by_cases k6 : c < 0
  · rw [if_pos (by unfold canBad; simp only [k6, true_or, or_true, ne_eq, not_true_eq_false, not_false_eq_true])] at h
    obtain rfl := Option.some.inj h
    exact can_no6 _ _ _ _ _ _ _ _ _ _ _ _ _ _ (by simpa using k0) (by simpa using k1) (by simpa using k2) (by simpa using k3) (by simpa using k4) (by simpa using k5) (by simpa using k6)
  by_cases k7 : 32 < c
  · rw [if_pos (by unfold canBad; simp only [k7, true_or, or_true, ne_eq, not_true_eq_false, not_false_eq_true])] at h
    obtain rfl := Option.some.inj h
    exact can_no7 _ _ _ _ _ _ _ _ _ _ _ _ _ _ (by simpa using k0) (by simpa using k1) (by simpa using k2) (by simpa using k3) (by simpa using k4) (by simpa using k5) (by simpa using k6) (by simpa using k7)
  by_cases k8 : (l2.length : Int) ≠ a0
  · rw [if_pos (by unfold canBad; simp only [k8, true_or, or_true, ne_eq, not_true_eq_false, not_false_eq_true])] at h
    obtain rfl := Option.some.inj h
    exact can_no8 _ _ _ _ _ _ _ _ _ _ _ _ _ _ (by simpa using k0) (by simpa using k1) (by simpa using k2) (by simpa using k3) (by simpa using k4) (by simpa using k5) (by simpa using k6) (by simpa using k7) (by simpa using k8) (by simpa using k8)
  by_cases k9 : (l4.length : Int) ≠ a0
  · rw [if_pos (by unfold canBad; simp only [k9, true_or, or_true, ne_eq, not_true_eq_false, not_false_eq_true])] at h
    obtain rfl := Option.some.inj h
    exact can_no9 _ _ _ _ _ _ _ _ _ _ _ _ _ _ (by simpa using k0) (by simpa using k1) (by simpa using k2) (by simpa using k3) (by simpa using k4) (by simpa using k5) (by simpa using k6) (by simpa using k7) (by simpa using k8) (by simpa using k8) (by simpa using k9) (by simpa using k9)
  rw [if_neg (by unfold canBad; simp only [k0, k1, k2, k3, k4, k5, k6, k7, k8, k9, or_self, not_false_eq_true])] at h
  obtain ⟨n, hn, h⟩ := Option.bind_eq_some_iff.1 h
  have HL := Aside0.mk (fun W : World => annalsref13_Links.calls k e n W hn)
  by_cases k10 : (l5.length : Int) ≠ n
  · rw [if_pos k10] at h
    obtain rfl := Option.some.inj h
    exact can_no10 _ _ _ _ _ _ _ _ _ _ _ _ _ _ n HL (by simpa using k0) (by simpa using k1) (by simpa using k2) (by simpa using k3) (by simpa using k4) (by simpa using k5) (by simpa using k6) (by simpa using k7) (by simpa using k8) (by simpa using k8) (by simpa using k9) (by simpa using k9) (by simpa using k10) (by simpa using k10)
  · rw [if_neg k10] at h
    obtain rfl := Option.some.inj h
    exact can_loop _ _ _ _ _ _ _ _ _ _ _ _ _ _ n HL hr1_5 (by simpa using k0) (by simpa using k1) (by simpa using k2) (by simpa using k3) (by simpa using k4) (by simpa using k5) (by simpa using k6) (by simpa using k7) (by simpa using k8) (by simpa using k8) (by simpa using k9) (by simpa using k9) (by simpa using k10) (by simpa using k10)
end Go.Proofs.YteamljekjncbfaaDoor.P
end
