/- Lemmas of this claim, part 22. -/
import Derived.Test.YteamljekjncbfaaDoorPartSeekAny2
import Derived.Test.YteamljekjncbfaaDoorPartSeekAny21
import Derived.Test.YteamljekjncbfaaDoorPartSeekAny19
import Derived.Test.YteamljekjncbfaaDoorPartSeekAny16
import Derived.ChangeArms
import Derived.SizedLaws
import Derived.WideShapes
import Derived.ChangeSlices
section
namespace Go.Proofs.YteamljekjncbfaaDoor.P
open Go.RowKit Go.Proofs.YteamljekjncbfaaDoorW.PrintWords Go.Proofs.YteamljekjncbfaaDoorW.PrintLast Go.Proofs.YteamljekjncbfaaDoorW.PrintMore
attribute [local go_sem] max2_int min2_int max_two min_two max_three min_three max_four min_four
set_option linter.unusedVariables false
set_option linter.unusedSimpArgs false
def annalslaw20_awake.f (k : Nat)  : Option (Bool) := (seek_Probes.f (([0, 5, 5, 9, 9] : List Int)) 4).bind fun t446 => ((slices_Equal_int_int.f k t446 (([0, 2, 1] : List Int))).bind fun t452 => (if t452 = true then ((seek_Find.f (([0, 5, 5, 9, 9] : List Int)) 5).bind fun t456 => (some (t456 == 2))) else (some false)))
set_option maxHeartbeats 8000000 in
set_option maxRecDepth 100000 in
theorem annalslaw20_awake.calls (k : Nat)  (r : Bool) (w : World) (h : annalslaw20_awake.f k  = some r) :
    Calls Tryd.prog 48 #[] w fun e w' => e = .returned (.bool r) ∧ Below w.heap.size w w' := by
  have HB := Aside0.mk (Below.refl w.heap.size w)
  have H : ((seek_Probes.f (([0, 5, 5, 9, 9] : List Int)) 4).bind fun t446 => ((slices_Equal_int_int.f k t446 (([0, 2, 1] : List Int))).bind fun t452 => (if t452 = true then ((seek_Find.f (([0, 5, 5, 9, 9] : List Int)) 5).bind fun t456 => (some (t456 == 2))) else (some false)))) = some r := h
  clear h
  obtain ⟨y443, hy443⟩ : ∃ y_ : List Int, y_ = (([0, 5, 5, 9, 9] : List Int)) := ⟨_, rfl⟩
  replace H : ((seek_Probes.f y443 4).bind fun t446 => ((slices_Equal_int_int.f k t446 (([0, 2, 1] : List Int))).bind fun t452 => (if t452 = true then ((seek_Find.f (([0, 5, 5, 9, 9] : List Int)) 5).bind fun t456 => (some (t456 == 2))) else (some false)))) = some r := by first | (rw [hy443]; with_reducible exact H) | (have H2_ := (Option.bind_some _ _).symm.trans H; rw [hy443]; with_reducible exact H2_) | (have H2_ := (Option.bind_some _ _).symm.trans H; with_reducible exact H2_) | with_reducible exact H | (rw [hy443]; exact H) | exact H
  have Ny443 := Aside0.mk hy443
  clear hy443
  replace H := Option.bind_eq_some_iff.mp H
  obtain ⟨t446, A10, H⟩ := H
  replace H : ((slices_Equal_int_int.f k t446 (([0, 2, 1] : List Int))).bind fun t452 => (if t452 = true then ((seek_Find.f (([0, 5, 5, 9, 9] : List Int)) 5).bind fun t456 => (some (t456 == 2))) else (some false))) = some r := H
  have A1 := Aside0.mk A10
  clear A10
  obtain ⟨y449, hy449⟩ : ∃ y_ : List Int, y_ = (([0, 2, 1] : List Int)) := ⟨_, rfl⟩
  replace H : ((slices_Equal_int_int.f k t446 y449).bind fun t452 => (if t452 = true then ((seek_Find.f (([0, 5, 5, 9, 9] : List Int)) 5).bind fun t456 => (some (t456 == 2))) else (some false))) = some r := by first | (rw [hy449]; with_reducible exact H) | (have H2_ := (Option.bind_some _ _).symm.trans H; rw [hy449]; with_reducible exact H2_) | (have H2_ := (Option.bind_some _ _).symm.trans H; with_reducible exact H2_) | with_reducible exact H | (rw [hy449]; exact H) | exact H
  have Ny449 := Aside0.mk hy449
  clear hy449
  replace H := Option.bind_eq_some_iff.mp H
  obtain ⟨t452, A20, H⟩ := H
  replace H : (if t452 = true then ((seek_Find.f (([0, 5, 5, 9, 9] : List Int)) 5).bind fun t456 => (some (t456 == 2))) else (some false)) = some r := H
  have A2 := Aside0.mk A20
  clear A20
  by_cases c3 : t452 = true
  · subst c3
    have H1 : ((seek_Find.f (([0, 5, 5, 9, 9] : List Int)) 5).bind fun t456 => (some (t456 == 2))) = some r := by rw [if_pos rfl] at H; exact H
    clear H
    have H := H1
    clear H1
    obtain ⟨y453, hy453⟩ : ∃ y_ : List Int, y_ = (([0, 5, 5, 9, 9] : List Int)) := ⟨_, rfl⟩
    replace H : ((seek_Find.f y453 5).bind fun t456 => (some (t456 == 2))) = some r := by first | (rw [hy453]; with_reducible exact H) | (have H2_ := (Option.bind_some _ _).symm.trans H; rw [hy453]; with_reducible exact H2_) | (have H2_ := (Option.bind_some _ _).symm.trans H; with_reducible exact H2_) | with_reducible exact H | (rw [hy453]; exact H) | exact H
    have Ny453 := Aside0.mk hy453
    clear hy453
    replace H := Option.bind_eq_some_iff.mp H
    obtain ⟨t456, A40, H⟩ := H
    replace H : (some (t456 == 2)) = some r := H
    have A4 := Aside0.mk A40
    clear A40
    obtain rfl := Option.some.inj H
    go_enter Tryd.func48, Tryd.ntmps48
    go_wp2_with (first | ((with_reducible refine gate_dst (N := 1) rfl ?_); (try (refine gate_guard (by rfl) ?_; dsimp only)); refine Kd.R_lit (Kd.int .i64) _ 3 ?hg (N := 1) ?hd (xs := ([0, 5, 5, 9, 9] : List Int)) (inner := [.int .i64 0, .int .i64 5, .int .i64 5, .int .i64 9, .int .i64 9]) (ok := fun _ => True) (okp := fun _ => True) ?hr ?hp (fun _ hk => hk) trivial (Below.refl _ _) (Nat.le_refl _) (by simp) ?_; (case hd => rfl); (case hg => rfl); (case hr => first | (go_simp; done) | (go_simp; rfl)); (case hp => exact (Reps.one (show Kd.M (Kd.int .i64) _ _ _ 0 [.int .i64 0] from rfl) (Reps.one (show Kd.M (Kd.int .i64) _ _ _ 5 [.int .i64 5] from rfl) (Reps.one (show Kd.M (Kd.int .i64) _ _ _ 5 [.int .i64 5] from rfl) (Reps.one (show Kd.M (Kd.int .i64) _ _ _ 9 [.int .i64 9] from rfl) (Reps.one (show Kd.M (Kd.int .i64) _ _ _ 9 [.int .i64 9] from rfl) (Reps.none _ _))))))); intro v444 w5 ho6 hb hg_ hnew_; clear hg_ hnew_; (first | rw [← Ny443.out] at ho6 | (simp only [Int.reduceToNat] at ho6; rw [← Ny443.out] at ho6)); have n0_ := Aside0.mk (Kd.R_lower ho6 (below_size (by repeat (first | (with_reducible first | exact HB.out | apply below_alloc | apply pw_below_drewN | apply below_drew1) | exact HB.out)))); have n1_ := Aside0.mk (below_step (by repeat (first | (with_reducible first | exact HB.out | apply below_alloc | apply pw_below_drewN | apply below_drew1) | exact HB.out)) hb); clear HB; have HO445 := n0_; have HB := n1_; clear n0_ n1_; clear hb ho6; obtain ⟨Ao7, co7, eo7⟩ := Kd.R_slice HO445.out; subst eo7) | ((with_reducible refine gate_callee (f := 81) rfl ?_); refine goesL_ (some 2) rfl rfl Tryd.func81 (by kernel_rfl) rfl #[.slice Ao7 y443.length co7, .int .i64 4] rfl (by (try simp only [List.map_toArray, List.map_cons, List.map_nil]); first | done | rfl | (simp only [List.length_drop, List.length_take]; rfl)) ?_; (with_reducible refine (seek_Probes.calls _ _ y443 4 t446 _ ?side1 ?side2 A1.out).mono ?_); (case side1 => repeat (first | exact (Kd.R_reads' HO445.out).2.2 | (with_reducible refine Kd.C_alloc ?_ _) | (with_reducible refine Kd.C_drewN ?_ _) | (with_reducible refine Kd.C_drew ?_))); (case side2 => exact (Kd.R_reads' HO445.out).2.1); rintro e w8 ⟨v447, rfl, ho0, hb⟩; refine ⟨_, rfl, ?_⟩; have n0_ := Aside0.mk (Kd.R_elder' (by (with_reducible repeat (first | apply Kd.R_alloc | apply Kd.R_drewN | apply Kd.R_drew)); exact HO445.out) (Kd.R_base ho0) hb); have n1_ := Aside0.mk (Kd.R_lower (Kd.R_new' ho0 (Kd.R_lt (by (with_reducible repeat (first | apply Kd.R_alloc | apply Kd.R_drewN | apply Kd.R_drew)); exact HO445.out))) (below_size (by repeat (first | (with_reducible first | exact HB.out | apply below_alloc | apply pw_below_drewN | apply below_drew1) | exact HB.out)))); have n2_ := Aside0.mk (below_step (by repeat (first | (with_reducible first | exact HB.out | apply below_alloc | apply pw_below_drewN | apply below_drew1) | exact HB.out)) hb); clear HO445; clear HB; have HO445 := n0_; have HO448 := n1_; have HB := n2_; clear n0_ n1_ n2_; (try clear hb); (try clear hb2); (try clear hk); (try clear hi); (try clear ho0)) | ((with_reducible refine gate_dst (N := 3) rfl ?_); (try (refine gate_guard (by rfl) ?_; dsimp only)); refine Kd.R_lit (Kd.int .i64) _ 3 ?hg (N := 3) ?hd (xs := ([0, 2, 1] : List Int)) (inner := [.int .i64 0, .int .i64 2, .int .i64 1]) (ok := fun _ => True) (okp := fun _ => True) ?hr ?hp (fun _ hk => hk) trivial (Below.refl _ _) (Nat.le_refl _) (by simp) ?_; (case hd => rfl); (case hg => rfl); (case hr => first | (go_simp; done) | (go_simp; rfl)); (case hp => exact (Reps.one (show Kd.M (Kd.int .i64) _ _ _ 0 [.int .i64 0] from rfl) (Reps.one (show Kd.M (Kd.int .i64) _ _ _ 2 [.int .i64 2] from rfl) (Reps.one (show Kd.M (Kd.int .i64) _ _ _ 1 [.int .i64 1] from rfl) (Reps.none _ _))))); intro v450 w9 ho10 hb hg_ hnew_; clear hg_ hnew_; (first | rw [← Ny449.out] at ho10 | (simp only [Int.reduceToNat] at ho10; rw [← Ny449.out] at ho10)); have n0_ := Aside0.mk (Kd.R_elder' (by (with_reducible repeat (first | apply Kd.R_alloc | apply Kd.R_drewN | apply Kd.R_drew)); exact HO445.out) (Kd.R_base ho10) hb); have n1_ := Aside0.mk (Kd.R_elder' (by (with_reducible repeat (first | apply Kd.R_alloc | apply Kd.R_drewN | apply Kd.R_drew)); exact HO448.out) (Kd.R_base ho10) hb); have n2_ := Aside0.mk (Kd.R_lower (Kd.R_new' (Kd.R_new' ho10 (Kd.R_lt (by (with_reducible repeat (first | apply Kd.R_alloc | apply Kd.R_drewN | apply Kd.R_drew)); exact HO445.out))) (Kd.R_lt (by (with_reducible repeat (first | apply Kd.R_alloc | apply Kd.R_drewN | apply Kd.R_drew)); exact HO448.out))) (below_size (by repeat (first | (with_reducible first | exact HB.out | apply below_alloc | apply pw_below_drewN | apply below_drew1) | exact HB.out)))); have n3_ := Aside0.mk (below_step (by repeat (first | (with_reducible first | exact HB.out | apply below_alloc | apply pw_below_drewN | apply below_drew1) | exact HB.out)) hb); clear HO445; clear HO448; clear HB; have HO445 := n0_; have HO448 := n1_; have HO451 := n2_; have HB := n3_; clear n0_ n1_ n2_ n3_; clear hb ho10; obtain ⟨Ao11, co11, eo11⟩ := Kd.R_slice HO448.out; subst eo11; obtain ⟨Ao12, co12, eo12⟩ := Kd.R_slice HO451.out; subst eo12) | ((with_reducible refine gate_callee (f := 13) rfl ?_); refine goesL_ (some 4) rfl rfl Tryd.func13 (by kernel_rfl) rfl #[.slice Ao11 t446.length co11, .slice Ao12 y449.length co12] rfl (by (try simp only [List.map_toArray, List.map_cons, List.map_nil]); first | done | rfl | (simp only [List.length_drop, List.length_take]; rfl)) ?_; (with_reducible refine (slices_Equal_int_int.calls k _ _ t446 _ _ y449 true _ ?side1 ?side2 ?side3 ?side4 A2.out).mono ?_); (case side1 => repeat (first | exact (Kd.R_reads' HO448.out).2.2 | (with_reducible refine Kd.C_alloc ?_ _) | (with_reducible refine Kd.C_drewN ?_ _) | (with_reducible refine Kd.C_drew ?_))); (case side2 => exact (Kd.R_reads' HO448.out).2.1); (case side3 => repeat (first | exact (Kd.R_reads' HO451.out).2.2 | (with_reducible refine Kd.C_alloc ?_ _) | (with_reducible refine Kd.C_drewN ?_ _) | (with_reducible refine Kd.C_drew ?_))); (case side4 => exact (Kd.R_reads' HO451.out).2.1); rintro e w' ⟨rfl, ⟨nd, rfl⟩⟩; refine ⟨_, rfl, ?_⟩) | ((with_reducible refine gate_dst (N := 6) rfl ?_); (try (refine gate_guard (by rfl) ?_; dsimp only)); refine Kd.R_lit (Kd.int .i64) _ 3 ?hg (N := 6) ?hd (xs := ([0, 5, 5, 9, 9] : List Int)) (inner := [.int .i64 0, .int .i64 5, .int .i64 5, .int .i64 9, .int .i64 9]) (ok := fun _ => True) (okp := fun _ => True) ?hr ?hp (fun _ hk => hk) trivial (Below.refl _ _) (Nat.le_refl _) (by simp) ?_; (case hd => rfl); (case hg => rfl); (case hr => first | (go_simp; done) | (go_simp; rfl)); (case hp => exact (Reps.one (show Kd.M (Kd.int .i64) _ _ _ 0 [.int .i64 0] from rfl) (Reps.one (show Kd.M (Kd.int .i64) _ _ _ 5 [.int .i64 5] from rfl) (Reps.one (show Kd.M (Kd.int .i64) _ _ _ 5 [.int .i64 5] from rfl) (Reps.one (show Kd.M (Kd.int .i64) _ _ _ 9 [.int .i64 9] from rfl) (Reps.one (show Kd.M (Kd.int .i64) _ _ _ 9 [.int .i64 9] from rfl) (Reps.none _ _))))))); intro v454 w13 ho14 hb hg_ hnew_; clear hg_ hnew_; (first | rw [← Ny453.out] at ho14 | (simp only [Int.reduceToNat] at ho14; rw [← Ny453.out] at ho14)); have n0_ := Aside0.mk (Kd.R_elder' (by (with_reducible repeat (first | apply Kd.R_alloc | apply Kd.R_drewN | apply Kd.R_drew)); exact HO445.out) (Kd.R_base ho14) hb); have n1_ := Aside0.mk (Kd.R_elder' (by (with_reducible repeat (first | apply Kd.R_alloc | apply Kd.R_drewN | apply Kd.R_drew)); exact HO448.out) (Kd.R_base ho14) hb); have n2_ := Aside0.mk (Kd.R_elder' (by (with_reducible repeat (first | apply Kd.R_alloc | apply Kd.R_drewN | apply Kd.R_drew)); exact HO451.out) (Kd.R_base ho14) hb); have n3_ := Aside0.mk (Kd.R_lower (Kd.R_new' (Kd.R_new' (Kd.R_new' ho14 (Kd.R_lt (by (with_reducible repeat (first | apply Kd.R_alloc | apply Kd.R_drewN | apply Kd.R_drew)); exact HO445.out))) (Kd.R_lt (by (with_reducible repeat (first | apply Kd.R_alloc | apply Kd.R_drewN | apply Kd.R_drew)); exact HO448.out))) (Kd.R_lt (by (with_reducible repeat (first | apply Kd.R_alloc | apply Kd.R_drewN | apply Kd.R_drew)); exact HO451.out))) (below_size (by repeat (first | (with_reducible first | exact HB.out | apply below_alloc | apply pw_below_drewN | apply below_drew1) | exact HB.out)))); have n4_ := Aside0.mk (below_step (by repeat (first | (with_reducible first | exact HB.out | apply below_alloc | apply pw_below_drewN | apply below_drew1) | exact HB.out)) hb); clear HO445; clear HO448; clear HO451; clear HB; have HO445 := n0_; have HO448 := n1_; have HO451 := n2_; have HO455 := n3_; have HB := n4_; clear n0_ n1_ n2_ n3_ n4_; clear hb ho14; obtain ⟨Ao15, co15, eo15⟩ := Kd.R_slice HO455.out; subst eo15) | (go_at_call 82; (with_reducible refine (seek_Find.calls _ _ y453 5 t456 _ ?side1 ?side2 A4.out).mono ?_); (case side1 => repeat (first | exact (Kd.R_reads' HO455.out).2.2 | (with_reducible refine Kd.C_alloc ?_ _) | (with_reducible refine Kd.C_drewN ?_ _) | (with_reducible refine Kd.C_drew ?_))); (case side2 => exact (Kd.R_reads' HO455.out).2.1); rintro e w16 ⟨rfl, hb⟩; have n0_ := Aside0.mk (Kd.R_below (by (with_reducible repeat (first | apply Kd.R_alloc | apply Kd.R_drewN | apply Kd.R_drew)); exact HO445.out) hb); have n1_ := Aside0.mk (Kd.R_below (by (with_reducible repeat (first | apply Kd.R_alloc | apply Kd.R_drewN | apply Kd.R_drew)); exact HO448.out) hb); have n2_ := Aside0.mk (Kd.R_below (by (with_reducible repeat (first | apply Kd.R_alloc | apply Kd.R_drewN | apply Kd.R_drew)); exact HO451.out) hb); have n3_ := Aside0.mk (Kd.R_below (by (with_reducible repeat (first | apply Kd.R_alloc | apply Kd.R_drewN | apply Kd.R_drew)); exact HO455.out) hb); have n4_ := Aside0.mk (below_step (by repeat (first | (with_reducible first | exact HB.out | apply below_alloc | apply pw_below_drewN | apply below_drew1) | exact HB.out)) hb); clear HO445; clear HO448; clear HO451; clear HO455; clear HB; have HO445 := n0_; have HO448 := n1_; have HO451 := n2_; have HO455 := n3_; have HB := n4_; clear n0_ n1_ n2_ n3_ n4_; (try clear hb); (try clear hb2); (try clear hk); (try clear hi)))
    go_ret
    exact ⟨by first | rfl | (simp [errW_none, errW_some] <;> rfl) | (simp [*, errW_none, errW_some] <;> rfl), by repeat (first | (with_reducible first | exact HB.out | apply below_alloc | apply pw_below_drewN | apply below_drew1) | exact HB.out)⟩
  · replace c3 := Bool.eq_false_iff.mpr c3
    subst c3
    have H1 : (some false) = some r := by rw [if_neg (show ¬ (false = true) by decide)] at H; exact H
    clear H
    have H := H1
    clear H1
    obtain rfl := Option.some.inj H
    go_enter Tryd.func48, Tryd.ntmps48
    go_wp2_with (first | ((with_reducible refine gate_dst (N := 1) rfl ?_); (try (refine gate_guard (by rfl) ?_; dsimp only)); refine Kd.R_lit (Kd.int .i64) _ 3 ?hg (N := 1) ?hd (xs := ([0, 5, 5, 9, 9] : List Int)) (inner := [.int .i64 0, .int .i64 5, .int .i64 5, .int .i64 9, .int .i64 9]) (ok := fun _ => True) (okp := fun _ => True) ?hr ?hp (fun _ hk => hk) trivial (Below.refl _ _) (Nat.le_refl _) (by simp) ?_; (case hd => rfl); (case hg => rfl); (case hr => first | (go_simp; done) | (go_simp; rfl)); (case hp => exact (Reps.one (show Kd.M (Kd.int .i64) _ _ _ 0 [.int .i64 0] from rfl) (Reps.one (show Kd.M (Kd.int .i64) _ _ _ 5 [.int .i64 5] from rfl) (Reps.one (show Kd.M (Kd.int .i64) _ _ _ 5 [.int .i64 5] from rfl) (Reps.one (show Kd.M (Kd.int .i64) _ _ _ 9 [.int .i64 9] from rfl) (Reps.one (show Kd.M (Kd.int .i64) _ _ _ 9 [.int .i64 9] from rfl) (Reps.none _ _))))))); intro v444 w17 ho18 hb hg_ hnew_; clear hg_ hnew_; (first | rw [← Ny443.out] at ho18 | (simp only [Int.reduceToNat] at ho18; rw [← Ny443.out] at ho18)); have n0_ := Aside0.mk (Kd.R_lower ho18 (below_size (by repeat (first | (with_reducible first | exact HB.out | apply below_alloc | apply pw_below_drewN | apply below_drew1) | exact HB.out)))); have n1_ := Aside0.mk (below_step (by repeat (first | (with_reducible first | exact HB.out | apply below_alloc | apply pw_below_drewN | apply below_drew1) | exact HB.out)) hb); clear HB; have HO445 := n0_; have HB := n1_; clear n0_ n1_; clear hb ho18; obtain ⟨Ao19, co19, eo19⟩ := Kd.R_slice HO445.out; subst eo19) | ((with_reducible refine gate_callee (f := 81) rfl ?_); refine goesL_ (some 2) rfl rfl Tryd.func81 (by kernel_rfl) rfl #[.slice Ao19 y443.length co19, .int .i64 4] rfl (by (try simp only [List.map_toArray, List.map_cons, List.map_nil]); first | done | rfl | (simp only [List.length_drop, List.length_take]; rfl)) ?_; (with_reducible refine (seek_Probes.calls _ _ y443 4 t446 _ ?side1 ?side2 A1.out).mono ?_); (case side1 => repeat (first | exact (Kd.R_reads' HO445.out).2.2 | (with_reducible refine Kd.C_alloc ?_ _) | (with_reducible refine Kd.C_drewN ?_ _) | (with_reducible refine Kd.C_drew ?_))); (case side2 => exact (Kd.R_reads' HO445.out).2.1); rintro e w20 ⟨v447, rfl, ho0, hb⟩; refine ⟨_, rfl, ?_⟩; have n0_ := Aside0.mk (Kd.R_elder' (by (with_reducible repeat (first | apply Kd.R_alloc | apply Kd.R_drewN | apply Kd.R_drew)); exact HO445.out) (Kd.R_base ho0) hb); have n1_ := Aside0.mk (Kd.R_lower (Kd.R_new' ho0 (Kd.R_lt (by (with_reducible repeat (first | apply Kd.R_alloc | apply Kd.R_drewN | apply Kd.R_drew)); exact HO445.out))) (below_size (by repeat (first | (with_reducible first | exact HB.out | apply below_alloc | apply pw_below_drewN | apply below_drew1) | exact HB.out)))); have n2_ := Aside0.mk (below_step (by repeat (first | (with_reducible first | exact HB.out | apply below_alloc | apply pw_below_drewN | apply below_drew1) | exact HB.out)) hb); clear HO445; clear HB; have HO445 := n0_; have HO448 := n1_; have HB := n2_; clear n0_ n1_ n2_; (try clear hb); (try clear hb2); (try clear hk); (try clear hi); (try clear ho0)) | ((with_reducible refine gate_dst (N := 3) rfl ?_); (try (refine gate_guard (by rfl) ?_; dsimp only)); refine Kd.R_lit (Kd.int .i64) _ 3 ?hg (N := 3) ?hd (xs := ([0, 2, 1] : List Int)) (inner := [.int .i64 0, .int .i64 2, .int .i64 1]) (ok := fun _ => True) (okp := fun _ => True) ?hr ?hp (fun _ hk => hk) trivial (Below.refl _ _) (Nat.le_refl _) (by simp) ?_; (case hd => rfl); (case hg => rfl); (case hr => first | (go_simp; done) | (go_simp; rfl)); (case hp => exact (Reps.one (show Kd.M (Kd.int .i64) _ _ _ 0 [.int .i64 0] from rfl) (Reps.one (show Kd.M (Kd.int .i64) _ _ _ 2 [.int .i64 2] from rfl) (Reps.one (show Kd.M (Kd.int .i64) _ _ _ 1 [.int .i64 1] from rfl) (Reps.none _ _))))); intro v450 w21 ho22 hb hg_ hnew_; clear hg_ hnew_; (first | rw [← Ny449.out] at ho22 | (simp only [Int.reduceToNat] at ho22; rw [← Ny449.out] at ho22)); have n0_ := Aside0.mk (Kd.R_elder' (by (with_reducible repeat (first | apply Kd.R_alloc | apply Kd.R_drewN | apply Kd.R_drew)); exact HO445.out) (Kd.R_base ho22) hb); have n1_ := Aside0.mk (Kd.R_elder' (by (with_reducible repeat (first | apply Kd.R_alloc | apply Kd.R_drewN | apply Kd.R_drew)); exact HO448.out) (Kd.R_base ho22) hb); have n2_ := Aside0.mk (Kd.R_lower (Kd.R_new' (Kd.R_new' ho22 (Kd.R_lt (by (with_reducible repeat (first | apply Kd.R_alloc | apply Kd.R_drewN | apply Kd.R_drew)); exact HO445.out))) (Kd.R_lt (by (with_reducible repeat (first | apply Kd.R_alloc | apply Kd.R_drewN | apply Kd.R_drew)); exact HO448.out))) (below_size (by repeat (first | (with_reducible first | exact HB.out | apply below_alloc | apply pw_below_drewN | apply below_drew1) | exact HB.out)))); have n3_ := Aside0.mk (below_step (by repeat (first | (with_reducible first | exact HB.out | apply below_alloc | apply pw_below_drewN | apply below_drew1) | exact HB.out)) hb); clear HO445; clear HO448; clear HB; have HO445 := n0_; have HO448 := n1_; have HO451 := n2_; have HB := n3_; clear n0_ n1_ n2_ n3_; clear hb ho22; obtain ⟨Ao23, co23, eo23⟩ := Kd.R_slice HO448.out; subst eo23; obtain ⟨Ao24, co24, eo24⟩ := Kd.R_slice HO451.out; subst eo24) | ((with_reducible refine gate_callee (f := 13) rfl ?_); refine goesL_ (some 4) rfl rfl Tryd.func13 (by kernel_rfl) rfl #[.slice Ao23 t446.length co23, .slice Ao24 y449.length co24] rfl (by (try simp only [List.map_toArray, List.map_cons, List.map_nil]); first | done | rfl | (simp only [List.length_drop, List.length_take]; rfl)) ?_; (with_reducible refine (slices_Equal_int_int.calls k _ _ t446 _ _ y449 false _ ?side1 ?side2 ?side3 ?side4 A2.out).mono ?_); (case side1 => repeat (first | exact (Kd.R_reads' HO448.out).2.2 | (with_reducible refine Kd.C_alloc ?_ _) | (with_reducible refine Kd.C_drewN ?_ _) | (with_reducible refine Kd.C_drew ?_))); (case side2 => exact (Kd.R_reads' HO448.out).2.1); (case side3 => repeat (first | exact (Kd.R_reads' HO451.out).2.2 | (with_reducible refine Kd.C_alloc ?_ _) | (with_reducible refine Kd.C_drewN ?_ _) | (with_reducible refine Kd.C_drew ?_))); (case side4 => exact (Kd.R_reads' HO451.out).2.1); rintro e w' ⟨rfl, ⟨nd, rfl⟩⟩; refine ⟨_, rfl, ?_⟩))
    go_ret
    exact ⟨by first | rfl | (simp [errW_none, errW_some] <;> rfl) | (simp [*, errW_none, errW_some] <;> rfl), by repeat (first | (with_reducible first | exact HB.out | apply below_alloc | apply pw_below_drewN | apply below_drew1) | exact HB.out)⟩
end Go.Proofs.YteamljekjncbfaaDoor.P
end
section
set_option linter.unusedVariables false
set_option linter.unusedSimpArgs false
namespace Go.Proofs.YteamljekjncbfaaDoor.P
open Go.RowKit Go.Proofs.YteamljekjncbfaaDoorW.PrintWords Go.Proofs.YteamljekjncbfaaDoorW.PrintLast Go.Proofs.YteamljekjncbfaaDoorW.PrintMore
theorem ints_l0 (l : List Int) (hl : l.length < 1000000000) : ∀ (d k : Nat) (i : Int), 0 ≤ i → i ≤ l.length → (l.length : Int) - i = d → d < k →
    slices_Equal_int_int.l0 k l l (l.length : Int) i = some true := by
  intro d
  induction d with
  | zero =>
    intro k i h0 h1 hd hk
    obtain ⟨k, rfl⟩ : ∃ m, k = m + 1 := ⟨k - 1, by omega⟩
    simp only [slices_Equal_int_int.l0]
    rw [if_neg (by omega)]
  | succ d ih =>
    intro k i h0 h1 hd hk
    obtain ⟨k, rfl⟩ : ∃ m, k = m + 1 := ⟨k - 1, by omega⟩
    simp only [slices_Equal_int_int.l0]
    rw [if_pos (by omega), if_pos h0, if_pos (by omega), if_pos (by omega), if_pos trivial, show wrap64 (i + 1) = i + 1 from by unfold wrap64; omega]
    exact ih k (i + 1) (by omega) (by omega) (by omega) (by omega)
theorem ints_same (l : List Int) (hl : l.length < 1000000000) (k : Nat) (hk : l.length < k) : slices_Equal_int_int.f k l l = some true := by
  unfold slices_Equal_int_int.f
  rw [if_pos rfl]
  exact ints_l0 l hl l.length k 0 (by omega) (by omega) (by omega) hk
theorem awake20_f (k : Nat) (hk : 10 < k) : annalslaw20_awake.f k = some true := by
  unfold annalslaw20_awake.f seek_Probes.f seek_Find.f
  have e1 : lookRun [0, 5, 5, 9, 9] 4 = ([0, 2, 1], 0) := by decide +kernel
  have e2 : lookRun [0, 5, 5, 9, 9] 5 = ([0, 2, 3], 2) := by decide +kernel
  rw [if_pos (by simp), if_pos (by simp), e1, e2]
  simp only [Option.bind_some]
  rw [ints_same [0, 2, 1] (by simp) k (by simp; omega)]
  rfl
theorem awake20_calls (w : World) : Calls Tryd.prog 48 #[] w fun e w' => e = .returned (.bool true) ∧ Below w.heap.size w w' := annalslaw20_awake.calls 100 true w (awake20_f 100 (by decide))
end Go.Proofs.YteamljekjncbfaaDoor.P
end
section
set_option linter.unusedVariables false
set_option linter.unusedSimpArgs false
namespace Go.Proofs.YteamljekjncbfaaDoor.P
open Go.RowKit Go.Proofs.YteamljekjncbfaaDoor.Pure Go.Proofs.YteamljekjncbfaaDoorW.PrintWords Go.Proofs.YteamljekjncbfaaDoorW.PrintLast Go.Proofs.YteamljekjncbfaaDoorW.PrintMore
def SameR (a b : Rec) : Prop := a.f0 = b.f0 ∧ a.f1 = b.f1 ∧ a.f2 = b.f2 ∧ a.f3 = b.f3 ∧ a.f4 = b.f4 ∧ a.f5 = b.f5
instance (a b : Rec) : Decidable (SameR a b) := by unfold SameR; infer_instance
theorem SameR.refl (a : Rec) : SameR a a := ⟨rfl, rfl, rfl, rfl, rfl, rfl⟩
theorem strNum_iff {a b : List Int} (ha : BytesOk a) (hb : BytesOk b) : ((strOfNums a).toList = (strOfNums b).toList) ↔ a = b := by
  have := strNum_eq ha hb
  rw [Bool.eq_iff_iff, beq_iff_eq, decide_eq_true_eq] at this
  exact this
theorem same_l0 (a b : Rec) (ha : ∀ p ∈ a.f5, BytesOk p) (hb : ∀ p ∈ b.f5, BytesOk p) (hl : a.f5.length = b.f5.length) (hm : a.f5.length ≤ 9223372036854775807) : ∀ (d k i : Nat), i + d = a.f5.length → d < k →
    annalsref13_Same.l0 k (a.f5.length : Int) (i : Int) a.f0 a.f1 a.f2 a.f3 a.f4 a.f5 b.f0 b.f1 b.f2 b.f3 b.f4 b.f5 = some (decide (a.f5.drop i = b.f5.drop i)) := by
  intro d
  induction d with
  | zero =>
    intro k i hi hk
    obtain ⟨k, rfl⟩ : ∃ m, k = m + 1 := ⟨k - 1, by omega⟩
    simp only [annalsref13_Same.l0]
    rw [if_neg (by omega), List.drop_of_length_le (by omega), List.drop_of_length_le (by omega)]
    rfl
  | succ d ih =>
    intro k i hi hk
    obtain ⟨k, rfl⟩ : ∃ m, k = m + 1 := ⟨k - 1, by omega⟩
    have h1 : i < a.f5.length := by omega
    have h2 : i < b.f5.length := by omega
    simp only [annalsref13_Same.l0]
    rw [if_pos (by omega), if_pos (by omega), if_pos (by omega), if_pos (by omega), rd_L1_at _ _ h1, rd_L1_at _ _ h2, List.drop_eq_getElem_cons h1, List.drop_eq_getElem_cons h2]
    have hq := strNum_iff (ha _ (List.getElem_mem h1)) (hb _ (List.getElem_mem h2))
    by_cases he : a.f5[i] = b.f5[i]
    · rw [if_pos (hq.2 he), wrap64_id _ (by omega), show ((i : Int) + 1) = ((i + 1 : Nat) : Int) by omega, ih k (i + 1) (by omega) (by omega)]
      exact congrArg some (decide_eq_decide.2 ⟨fun h => by rw [he, h], fun h => (List.cons.inj h).2⟩)
    · rw [if_neg (fun h => he (hq.1 h)), decide_eq_false (fun h => he (List.cons.inj h).1)]
theorem same_f (a b : Rec) (ha : RecOk a) (hb : RecOk b) (k : Nat) (hk : a.f5.length + 2 < k) (hm : a.f5.length ≤ 9223372036854775807) : annalsref13_Same.f k a.f0 a.f1 a.f2 a.f3 a.f4 a.f5 b.f0 b.f1 b.f2 b.f3 b.f4 b.f5 = some (decide (SameR a b)) := by
  obtain ⟨k, rfl⟩ : ∃ m, k = m + 1 := ⟨k - 1, by omega⟩
  have hno : ¬ SameR a b → annalsref13_Same.j0 (k + 1) true a.f0 a.f1 a.f2 a.f3 a.f4 a.f5 b.f0 b.f1 b.f2 b.f3 b.f4 b.f5 = some (decide (SameR a b)) := fun h => by
    simp only [annalsref13_Same.j0]
    rw [if_pos trivial, decide_eq_false h]
  unfold annalsref13_Same.f
  by_cases h0 : a.f0 = b.f0
  case neg => rw [if_neg h0]; exact hno (fun h => h0 h.1)
  rw [if_pos h0]
  by_cases h1 : a.f1 = b.f1
  case neg => rw [if_neg h1]; exact hno (fun h => h1 h.2.1)
  rw [if_pos h1]
  by_cases h2 : a.f2 = b.f2
  case neg => rw [if_neg (fun h => h2 ((strNum_iff ha.t2 hb.t2).1 h))]; exact hno (fun h => h2 h.2.2.1)
  rw [if_pos ((strNum_iff ha.t2 hb.t2).2 h2)]
  by_cases h3 : a.f3 = b.f3
  case neg => rw [if_neg h3]; exact hno (fun h => h3 h.2.2.2.1)
  rw [if_pos h3]
  by_cases h4 : a.f4 = b.f4
  case neg => rw [if_neg (fun h => h4 ((strNum_iff ha.t4 hb.t4).1 h))]; exact hno (fun h => h4 h.2.2.2.2.1)
  rw [if_pos ((strNum_iff ha.t4 hb.t4).2 h4)]
  by_cases hl : a.f5.length = b.f5.length
  case neg =>
    rw [show ((a.f5.length : Int) != (b.f5.length : Int)) = true from by simp; omega]
    exact hno (fun h => hl (by rw [h.2.2.2.2.2]))
  rw [show ((a.f5.length : Int) != (b.f5.length : Int)) = false from by simp; omega]
  simp only [annalsref13_Same.j0]
  rw [if_neg (by simp)]
  have := same_l0 a b ha.t5 hb.t5 hl hm a.f5.length k 0 (by omega) (by omega)
  rw [List.drop_zero, List.drop_zero] at this
  refine this.trans (congrArg some (decide_eq_decide.2 ⟨fun h => ⟨h0, h1, h2, h3, h4, h⟩, fun h => h.2.2.2.2.2⟩))
theorem followS_ok (size t : Int) : ∀ (l : List Rec) (x y : Rec), CanR size x → RecOk x → (∀ r ∈ l, RecOk r) → followS size t x l = some y → CanR size y ∧ RecOk y ∧ y.f0 = t := by
  intro l
  induction l with
  | nil =>
    intro x y hx ho _ h
    simp only [followS] at h
    split at h
    · rename_i hxt
      obtain rfl := Option.some.inj h
      exact ⟨hx, ho, hxt⟩
    · cases h
  | cons r l ih =>
    intro x y hx ho hl h
    simp only [followS] at h
    split at h
    · cases h
    · split at h
      · rename_i hc
        exact ih r y hc.2.1 (hl r List.mem_cons_self) (fun q hq => hl q (List.mem_cons_of_mem _ hq)) h
      · cases h
theorem zero_ok : RecOk z40 := ⟨by decide, by decide, (by intro x hx; cases hx), (by intro x hx; cases hx), (by intro x hx; cases hx)⟩
theorem handed_ok (size t : Int) (x : Rec) (way : List Rec) (ho : RecOk x) (hl : ∀ r ∈ way, RecOk r) : RecOk (handed (followR size x way t)).1 ∧ (handed (followR size x way t)).1.f5.length ≤ 63 := by
  cases h : followR size x way t with
  | none => exact ⟨zero_ok, Nat.zero_le _⟩
  | some y =>
    unfold followR at h
    split at h
    · rename_i hc
      have := followS_ok size t way x y hc.1 ho hl h
      exact ⟨this.2.1, (can_links size y this.1).1⟩
    · cases h
attribute [local go_sem] max2_int min2_int max_two min_two
end Go.Proofs.YteamljekjncbfaaDoor.P
end
section
set_option linter.unusedVariables false
set_option linter.unusedSimpArgs false
namespace Go.Proofs.YteamljekjncbfaaDoor.P
open Go.RowKit Go.Proofs.YteamljekjncbfaaDoor.Pure Go.Proofs.YteamljekjncbfaaDoorW.PrintWords Go.Proofs.YteamljekjncbfaaDoorW.PrintLast Go.Proofs.YteamljekjncbfaaDoorW.PrintMore
theorem found_ok (at_ : Int → Int → Int) (size t : Int) (x : Rec) (seen : List (List Rec)) (ho : RecOk x) (hl : ∀ l ∈ seen, ∀ r ∈ l, RecOk r) : RecOk (handed (seekR at_ size x seen t)).1 ∧ (handed (seekR at_ size x seen t)).1.f5.length ≤ 63 := by
  cases h : seekR at_ size x seen t with
  | none => exact ⟨zero_ok, Nat.zero_le _⟩
  | some y =>
    exact seekR_ok at_ size x t (fun r => RecOk r ∧ r.f5.length ≤ 63) (fun l e r hl hr => by
      have := handed_ok size e x l ho hl
      rw [hr] at this
      exact this) seen y hl h
attribute [local go_sem] max2_int min2_int max_two min_two
set_option maxHeartbeats 4000000 in
set_option maxRecDepth 100000 in
theorem seekAny_true (size : Int) (x0 : Rec) (p0 : Rows6) (As : Option Addr) (cs : Nat) (seen : List (List Rec)) (t : Int) (w : World) (h0 : RecC w p0 x0) (hw : Kd.C (Kd.slice 40 k40) w As seen.length seen) (hcs : seen.length ≤ cs)
    (hs : -9223372036854775808 ≤ size ∧ size < 9223372036854775808) (ho : RecOk x0) (hseen : ∀ l ∈ seen, ∀ r ∈ l, RecOk r) (hGT : GlobT w) (hGS : GlobS w) :
    Calls Tryd.prog 11 #[.int .i64 size, .agg #[.int .i64 x0.f0, .int .i64 x0.f1, .slice p0.A2 x0.f2.length p0.c2, .int .i64 x0.f3, .slice p0.A4 x0.f4.length p0.c4, .slice p0.A5 x0.f5.length p0.c5], .slice As seen.length cs, .int .i64 t] w fun e w' => e = .returned (.bool true) ∧ Below w.heap.size w w' := by
  obtain ⟨n, hn⟩ : ∃ n, n = seen.length := ⟨_, rfl⟩
  have hnm := hw.2.1
  have H0 := Aside0.mk h0
  have HW := Aside0.mk hw
  have HS := Aside0.mk hs
  have HO := Aside0.mk ho
  have HSEEN := Aside0.mk hseen
  have HGT := Aside0.mk hGT
  have HGS := Aside0.mk hGS
  have HN := Aside0.mk hn
  have HCS := Aside0.mk hcs
  rw [← hn] at hnm
  rw [← hn]
  clear h0 hw hs ho hseen hGT hGS hn hcs
  go_enter Tryd.func11, Tryd.ntmps11
  by_cases hbig : (n : Int) > 30
  · have hd := decide_eq_true hbig
    have hd2 : decide (30 < n) = true := decide_eq_true (by omega)
    clear hbig hnm
    go_wp2_with fail
    refine (awake20_calls _).mono ?_
    rintro e w7 ⟨rfl, hB7⟩
    have HB7 := Aside0.mk (below_step (below_alloc (Below.refl w.heap.size w) (.cells (recL x0 p0).toArray 40)) hB7)
    clear hB7
    go_wp2_with fail
    go_ret
    exact ⟨rfl, HB7.out⟩
  have hd := decide_eq_false hbig
  have hd2 : decide (30 < n) = false := decide_eq_false (by omega)
  have HNB := Aside0.mk hbig
  clear hbig hnm
  go_wp2_with fail
  clear hd hd2
  obtain ⟨W1, hW1⟩ : ∃ W1, W1 = w.alloc (.cells (recL x0 p0).toArray 40) := ⟨_, rfl⟩
  change Code.wp _ _ _ _ (w.alloc (.cells (recL x0 p0).toArray 40))
  rw [← hW1]
  have HB1 := Aside0.mk (show Below w.heap.size w W1 from by rw [hW1]; exact below_alloc (Below.refl _ _) _)
  have H5 := Aside0.mk (show RecB W1 w.heap.size x0 p0 from by rw [hW1]; exact recB_new w x0 p0)
  clear hW1
  go_loopw [21] (fun v21 wr => ∃ k : Nat, k ≤ n ∧ v21 = .int .i64 (k : Int) ∧ Aside0 (Below w.heap.size w wr) ∧ Aside0 (RecB wr w.heap.size x0 p0)) (fun v21 _ => n - (intOf v21).toNat)
  case atStart => exact ⟨0, Nat.zero_le _, rfl, HB1, H5⟩
  case round =>
    clear HB1 H5
    obtain ⟨k, hk, rfl, HB, H5⟩ := hrel
    by_cases hlt : k < n
    · have hn := HN.out
      obtain ⟨ar, bw, cb, hAR2, hy0, hyl, hyC⟩ := at_RR HW.out k (by omega) (by omega)
      subst hAR2
      obtain ⟨way, hway⟩ : ∃ l, l = rd_RR seen (k : Int) := ⟨_, rfl⟩
      rw [← hway] at hy0 hyl hyC
      rw [Int.toNat_natCast] at hy0
      replace hy0 := (HB.out.cell (World.block_lt_of_cell? w _ hy0)).trans hy0
      have hd : decide ((k : Int) < (n : Int)) = true := by simp; omega
      have hd2 : decide (k < n) = true := decide_eq_true hlt
      have q1 : (k : Int) < (n : Int) := by omega
      have hnb := HNB.out
      have HLT := Aside0.mk hlt
      clear hway hn hk hyC hyl
      by_cases hl : (way.length : Int) > 40
      · have hdl := decide_eq_true hl
        have hdl2 : decide (40 < way.length) = true := decide_eq_true (by omega)
        clear hl
        go_wp2_with fail
        refine (awake20_calls _).mono ?_
        rintro e w7 ⟨rfl, hB7⟩
        have HB7 := Aside0.mk (below_step HB.out hB7)
        clear hB7
        go_wp2_with fail
        go_ret
        exact ⟨rfl, HB7.out⟩
      · have hdl := decide_eq_false hl
        have hdl2 : decide (40 < way.length) = false := decide_eq_false (by omega)
        clear hl
        go_wp2_with fail
        have hlt := HLT.out
        go_roundw
        case measure => simp only [intOf]; omega
        case rel => exact ⟨k + 1, by omega, by go_num, HB, H5⟩
    · obtain rfl : k = n := by omega
      clear hk hlt
      obtain ⟨e0, e1, e2, e3, e4, e5⟩ := H5.out.cells
      go_wp2_with fail
      have hn := HN.out
      rw [hn]
      refine (seek_calls size x0 p0 As cs seen t wr (H0.out.below HB.out) (Kd.C_below HW.out HB.out) HCS.out HS.out HO.out HSEEN.out (GlobT.of HGT.out HB.out) (GlobS.of HGS.out HB.out)).mono ?_
      rintro e w2 hpost
      have hok := found_ok ckAt size t x0 seen HO.out HSEEN.out
      obtain ⟨X, hX⟩ : ∃ X, X = (handed (seekR ckAt size x0 seen t)).1 := ⟨_, rfl⟩
      obtain ⟨E, hE⟩ : ∃ E, E = errOf (seekR ckAt size x0 seen t) := ⟨_, rfl⟩
      obtain ⟨p2, rfl, hC2, hB2⟩ := hpost
      rw [← hX] at hC2 hok
      rw [← hX, ← hE]
      unfold recAgg
      have HOK := Aside0.mk hok
      have HX := Aside0.mk (And.intro hX hE)
      have HC2 := Aside0.mk hC2
      replace HB := Aside0.mk (below_step HB.out hB2)
      replace H5 := Aside0.mk (H5.out.below hB2)
      clear hX hE hC2 hB2 hok e0 e1 e2 e3 e4 e5 hn
      obtain ⟨e0, e1, e2, e3, e4, e5⟩ := H5.out.cells
      have hgl := H5.out.lt
      go_wp2_with fail
      clear hgl
      obtain ⟨W3, hW3⟩ : ∃ W3, W3 = w2.alloc (.cells (recL X p2).toArray 40) := ⟨_, rfl⟩
      change Calls _ _ _ (w2.alloc (.cells (recL X p2).toArray 40)) _
      rw [← hW3]
      have hB3 : Below w2.heap.size w2 W3 := by rw [hW3]; exact below_alloc (Below.refl _ _) _
      have h9 : RecB W3 w2.heap.size X p2 := by rw [hW3]; exact recB_new w2 X p2
      obtain ⟨g9, hg9⟩ : ∃ g, g = w2.heap.size := ⟨_, rfl⟩
      rw [← hg9] at h9
      rw [← hg9]
      have HB3 := Aside0.mk (below_step HB.out hB3)
      have H9 := Aside0.mk h9
      have HC3 := Aside0.mk (HC2.out.below hB3)
      clear hW3 hB3 h9 hg9 HB HC2 e0 e1 e2 e3 e4 e5
      refine (rseek_calls size x0 p0 As cs seen t W3 (H0.out.below HB3.out) (Kd.C_below HW.out HB3.out) HCS.out HS.out HO.out HSEEN.out).mono ?_
      rintro e w4 hpost
      obtain ⟨p4, rfl, hC4, hB4⟩ := hpost
      rw [seekR_same] at hC4
      rw [seekR_same]
      rw [← HX.out.1] at hC4
      rw [← HX.out.1, ← HX.out.2]
      unfold recAgg
      have HC4 := Aside0.mk hC4
      have HB4 := Aside0.mk (below_step HB3.out hB4)
      replace H9 := Aside0.mk (H9.out.below hB4)
      have HC34 := Aside0.mk (HC3.out.below hB4)
      clear hC4 hB4 HB3 HC3
      obtain ⟨d0, d1, d2, d3, d4, d5⟩ := H9.out.cells
      have hgl := H9.out.lt
      go_wp2_with fail
      clear hgl
      obtain ⟨W5, hW5⟩ : ∃ W5, W5 = w4.alloc (.cells (recL X p4).toArray 40) := ⟨_, rfl⟩
      change Calls _ _ _ (w4.alloc (.cells (recL X p4).toArray 40)) _
      rw [← hW5]
      have hB5 : Below w4.heap.size w4 W5 := by rw [hW5]; exact below_alloc (Below.refl _ _) _
      have HB5 := Aside0.mk (below_step HB4.out hB5)
      have hC5 := HC34.out.below hB5
      have hD5 := HC4.out.below hB5
      clear hW5 d0 d1 d2 d3 d4 d5
      refine (annalsref13_Same.calls 100 X.f0 X.f1 p2.A2 p2.c2 X.f2 X.f3 p2.A4 p2.c4 X.f4 p2.A5 p2.c5 X.f5 X.f0 X.f1 p4.A2 p4.c2 X.f2 X.f3 p4.A4 p4.c4 X.f4 p4.A5 p4.c5 X.f5 true W5 hC5.g2 hC5.l2 hC5.g4 hC5.l4 hC5.g5 hC5.l5 hD5.g2 hD5.l2 hD5.g4 hD5.l4 hD5.g5 hD5.l5 (by
        rw [same_f X X HOK.out.1 HOK.out.1 100 (by have := HOK.out.2; omega) (by have := HOK.out.2; omega), decide_eq_true (SameR.refl X)])).mono ?_
      rintro e w6 ⟨rfl, hB6⟩
      have HB6 := Aside0.mk (below_step HB5.out hB6)
      have hbb : (E == E) = true := by simp
      clear hB6 hC5 hD5 hB5
      go_wp2_with fail
      refine (awake20_calls _).mono ?_
      rintro e w7 ⟨rfl, hB7⟩
      have HB7 := Aside0.mk (below_step HB6.out hB7)
      clear hB7
      go_wp2_with fail
      go_ret
      exact ⟨rfl, HB7.out⟩
end Go.Proofs.YteamljekjncbfaaDoor.P
end
section
set_option linter.unusedVariables false
set_option linter.unusedSimpArgs false
namespace Go.Proofs.YteamljekjncbfaaDoor.P
open Go.RowKit Go.Proofs.YteamljekjncbfaaDoorW.PrintWords Go.Proofs.YteamljekjncbfaaDoorW.PrintLast Go.Proofs.YteamljekjncbfaaDoorW.PrintMore
theorem list_of {α : Type} (n : Nat) (R : Nat → α → Prop) (h : ∀ i, i < n → ∃ a, R i a) : ∃ xs : List α, xs.length = n ∧ ∀ i a, xs[i]? = some a → R i a := by
  induction n with
  | zero => exact ⟨[], rfl, fun i a hi => by simp at hi⟩
  | succ n ih =>
    obtain ⟨xs, hl, hx⟩ := ih (fun i hi => h i (by omega))
    obtain ⟨a, ha⟩ := h n (by omega)
    refine ⟨xs ++ [a], by simp [hl], fun i b hb => ?_⟩
    by_cases hi : i < n
    · rw [List.getElem?_append_left (by omega)] at hb
      exact hx i b hb
    · rw [List.getElem?_append_right (by omega)] at hb
      have h0 : i - xs.length = 0 := by
        have := (List.getElem?_eq_some_iff.1 hb).1
        simp at this
        omega
      rw [h0] at hb
      have hin : i = n := by omega
      subst hin
      have : a = b := by simpa using hb
      subst this
      exact ha
theorem weightsAll_mem {H : Type} {P : Program} {e : TypeId} {l : List (DataW H)} {d : DataW H} (hd : d ∈ l) {n : Nat} (hn : n ∈ d.weights P e) : n ∈ DataW.weightsAll P e l := by
  induction l with
  | nil => simp at hd
  | cons a l ih =>
    simp only [DataW.weightsAll, List.mem_append]
    rcases List.mem_cons.1 hd with rfl | hd
    · exact .inl hn
    · exact .inr (ih hd)
structure Opens (P : Program) (t : Nat) {α : Type} (d : Kd α) (wf : α → Prop) : Prop where
  size : P.cellsOf t = d.sz
  get : ∀ {H : Type} {enc : TypeId × Value → H} {w : World} {base : Nat} {spare : Nat → Bool} {held : Bool} {fuel : Nat} {cs : List Value} {x : DataW H × List MemPlace},
    DataW.trod enc P w base spare held fuel t cs = some x → (∀ n ∈ x.1.weights P t, n ≤ reachBytes) → ∃ a, d.K w a cs ∧ wf a
theorem Opens.imp {P : Program} {t : Nat} {α : Type} {d : Kd α} {wf wf' : α → Prop} (h : Opens P t d wf) (hi : ∀ a, wf a → wf' a) : Opens P t d wf' :=
  ⟨h.size, fun h1 h2 => by
    obtain ⟨a, h3, h4⟩ := h.get h1 h2
    exact ⟨a, h3, hi a h4⟩⟩
theorem Opens.int {P : Program} {t : Nat} {k : IntKind} (hu : P.underlying t = some (.int k)) (hc : P.cellsOf t = 1) : Opens P t (Kd.int k) (fun n => (Lit.int k n).wf = true) :=
  ⟨hc, fun h _ => by
    obtain ⟨n, rfl, _, hw⟩ := DataW.trod_int hu h
    exact ⟨n, rfl, hw⟩⟩
theorem Opens.bool {P : Program} {t : Nat} (hu : P.underlying t = some .bool) (hc : P.cellsOf t = 1) : Opens P t Kd.bool (fun _ => True) :=
  ⟨hc, fun h _ => by
    obtain ⟨n, rfl, _⟩ := DataW.trod_bool hu h
    exact ⟨n, rfl, trivial⟩⟩
theorem Opens.slice {P : Program} {t e : Nat} {α : Type} {d : Kd α} {wf : α → Prop} (hu : P.underlying t = some (.slice e)) (hc : P.cellsOf t = 1) (he : Opens P e d wf) :
    Opens P t (Kd.slice e d) (fun xs => xs.length * P.bytesOf e ≤ reachBytes ∧ ∀ a, a ∈ xs → wf a) := by
  refine ⟨hc, fun {H enc w base spare held fuel cs x} h hw => ?_⟩
  rcases DataW.trod_slice hu h with ⟨rfl, rfl⟩ | ⟨ad, len, cap, elems, rest, n, _, rfl, rfl, hb, hl, hm, hlen, hel, hsp, hns⟩
  · exact ⟨[], ⟨none, 0, rfl, Nat.le_refl _, Kd.C_nil d w⟩, by simp, by simp⟩
  · have hwa : ∀ d0 ∈ elems.map (·.1), ∀ m ∈ DataW.weights P e d0, m ≤ reachBytes := fun d0 hd0 m hm0 => hw m (by
      simp only [DataW.weights, hu, List.mem_cons, List.mem_append]
      exact .inr (.inl (weightsAll_mem hd0 hm0)))
    have hsz : (elems.length + rest.length) * P.bytesOf e ≤ reachBytes := hw _ (by simp [DataW.weights, hu])
    obtain ⟨xs, hxl, hx⟩ := list_of len (fun i a => wf a ∧ ∃ c, c.length = d.sz ∧ d.K w a c ∧ ∀ j u, c[j]? = some u → w.cell? (ad.add (i * d.sz + j)) = some u) (fun i hi => by
      have h1 := hel i hi
      have hi' : i < elems.length := by omega
      rw [List.getElem?_eq_getElem hi', Option.bind_eq_some_iff] at h1
      obtain ⟨c, hc1, hc2⟩ := h1
      obtain ⟨_, hlc, hcell⟩ := World.cells?_some hc1
      obtain ⟨a, hK, hwf⟩ := he.get hc2 (fun m hm0 => hwa _ (List.mem_map.2 ⟨_, List.getElem_mem hi', rfl⟩) m hm0)
      refine ⟨a, hwf, c, d.K_len hK, hK, fun j u hj => ?_⟩
      have hj' : j < c.length := (List.getElem?_eq_some_iff.1 hj).1
      have h2 := hcell j (by omega)
      rw [hj] at h2
      rw [← h2, he.size]
      congr 1
      unfold Addr.add
      by_cases h3 : i * d.sz = 0 <;> by_cases h4 : j = 0 <;> simp [h3, h4, Nat.add_assoc])
    refine ⟨xs, ⟨some ad, cap, by rw [hxl], by omega, ⟨rfl, by unfold maxLen at hm; omega, fun _ => ⟨ad, rfl, fun j p hj => ?_⟩⟩⟩, ?_, fun a ha => ?_⟩
    · obtain ⟨_, c, h1, h2, h3⟩ := hx j p hj
      exact ⟨c, h1, h2, h3⟩
    · rw [hxl]
      refine Nat.le_trans (Nat.mul_le_mul_right _ ?_) hsz
      omega
    · obtain ⟨i, hi⟩ := List.getElem?_of_mem ha
      exact (hx i a hi).1
structure OpensF (P : Program) (fs : List Field) (off : Nat) {α : Type} (d : Kd α) (wf : α → Prop) : Prop where
  get : ∀ {H : Type} {enc : TypeId × Value → H} {w : World} {base : Nat} {spare : Nat → Bool} {held : Bool} {fuel : Nat} {cs : List Value} {xs : List (DataW H × List MemPlace)},
    cs.length = off + d.sz → xs.length = fs.length → (∀ (i : Nat) (f : Field), fs[i]? = some f → DataW.trod enc P w base spare held fuel f.type ((cs.drop f.offset).take (P.cellsOf f.type)) = xs[i]?) →
    (∀ n ∈ DataW.weightsEach P (fs.map (·.type)) (xs.map (·.1)), n ≤ reachBytes) → ∃ a, d.K w a (cs.drop off) ∧ wf a
theorem OpensF.one {P : Program} {f : Field} {α : Type} {d : Kd α} {wf : α → Prop} {t off : Nat} (ht : f.type = t) (ho : f.offset = off) (h : Opens P t d wf) : OpensF P [f] off d wf := by
  subst ht
  subst ho
  refine ⟨fun {H enc w base spare held fuel cs xs} hl hxl hx hw => ?_⟩
  match xs, hxl with
  | [x], _ =>
    have h1 := hx 0 f rfl
    rw [List.take_of_length_le (by rw [List.length_drop, h.size]; omega)] at h1
    exact h.get h1 (fun n hn => hw n (by simp only [List.map_cons, List.map_nil, DataW.weightsEach, List.mem_append]; exact .inl hn))
theorem OpensF.cons {P : Program} {f : Field} {fs : List Field} {α β : Type} {d : Kd α} {d' : Kd β} {wf : α → Prop} {wf' : β → Prop} {t off off' : Nat} (ht : f.type = t) (ho : f.offset = off) (h : Opens P t d wf)
    (ho' : off + d.sz = off') (hr : OpensF P fs off' d' wf') : OpensF P (f :: fs) off (Kd.pair d d') (fun x => wf x.1 ∧ wf' x.2) := by
  subst ht
  subst ho
  subst ho'
  refine ⟨fun {H enc w base spare held fuel cs xs} hl hxl hx hw => ?_⟩
  match xs, hxl with
  | x :: xs, hxl =>
    have hl' : cs.length = f.offset + (d.sz + d'.sz) := hl
    have h1 := hx 0 f rfl
    obtain ⟨a, ha, hwa⟩ := h.get h1 (fun n hn => hw n (by simp only [List.map_cons, DataW.weightsEach, List.mem_append]; exact .inl hn))
    obtain ⟨b, hb, hwb⟩ := hr.get (by rw [hl']; omega) (by simpa using hxl) (fun i g hg => by simpa using hx (i + 1) g (by simpa using hg)) (fun n hn => hw n (by simp only [List.map_cons, DataW.weightsEach, List.mem_append]; exact .inr hn))
    refine ⟨(a, b), ⟨_, _, ?_, ha, hb⟩, hwa, hwb⟩
    rw [h.size]
    have := List.take_append_drop d.sz (cs.drop f.offset)
    rw [List.drop_drop] at this
    exact this.symm
theorem Opens.struct {P : Program} {t : Nat} {fs : Array Field} {α : Type} {d : Kd α} {wf : α → Prop} (hu : P.underlying t = some (.struct fs)) (hc : P.cellsOf t = d.sz) (h : OpensF P fs.toList 0 d wf) : Opens P t d wf := by
  refine ⟨hc, fun {H enc w base spare held fuel cs x} h1 hw => ?_⟩
  obtain ⟨xs, n, _, rfl, hl, hxl, hx⟩ := DataW.trod_struct hu h1
  have := h.get (cs := cs) (by rw [hl, hc]; omega) (by simpa using hxl) (fun i f hf => hx i f (by simpa using hf)) (fun n hn => hw n (by simp only [DataW.weights, hu]; exact hn))
  simpa using this
theorem Opens.iso {P : Program} {t : Nat} {α β : Type} {d : Kd α} {wf : α → Prop} (h : Opens P t d wf) (f : β → α) (g : α → β) (hfg : ∀ a, f (g a) = a) : Opens P t (Kd.iso d f) (fun b => wf (f b)) :=
  ⟨h.size, fun h1 hw => by
    obtain ⟨a, ha, hwa⟩ := h.get h1 hw
    exact ⟨g a, by show d.K _ (f (g a)) _; rw [hfg]; exact ha, by show wf (f (g a)); rw [hfg]; exact hwa⟩⟩
theorem Opens.param {P : Program} {t e : Nat} {α : Type} {d : Kd α} {wf : List α → Prop} (ho : Opens P t (Kd.slice e d) wf) {H : Type} {enc : TypeId × Value → H} {w : World} {base : Nat} {spare : Nat → Bool} {held : Bool} {fuel : Nat}
    {A : Option Addr} {len cap : Nat} {x : DataW H × List MemPlace} (h : DataW.trod enc P w base spare held fuel t [.slice A len cap] = some x) (hw : ∀ n ∈ x.1.weights P t, n ≤ reachBytes) :
    ∃ xs : List α, len = xs.length ∧ xs.length ≤ cap ∧ d.C w A xs.length xs ∧ wf xs := by
  obtain ⟨xs, ⟨A', c, he, hl, hC⟩, hwf⟩ := ho.get h hw
  injection he with he _
  injection he with h1 h2 h3
  subst h1
  subst h3
  exact ⟨xs, h2, hl, hC, hwf⟩
end Go.Proofs.YteamljekjncbfaaDoor.P
end
section
set_option linter.unusedVariables false
set_option linter.unusedSimpArgs false
namespace Go.Proofs.YteamljekjncbfaaDoor.P
open Go.RowKit Go.ChangeShapes Go.WideShapes Go.Proofs.YteamljekjncbfaaDoor.Pure Go.Proofs.YteamljekjncbfaaDoorW.PrintWords Go.Proofs.YteamljekjncbfaaDoorW.PrintLast Go.Proofs.YteamljekjncbfaaDoorW.PrintMore
theorem opensByte : Opens Tryd.prog 5 (Kd.int .u8) (fun n => (Lit.int .u8 n).wf = true) := Opens.int Tryd.underlying5 (by kernel_rfl)
theorem opensInt : Opens Tryd.prog 3 (Kd.int .i64) (fun n => (Lit.int .i64 n).wf = true) := Opens.int Tryd.underlying3 (by kernel_rfl)
theorem opensBytes : Opens Tryd.prog 33 (Kd.slice 5 (Kd.int .u8)) (fun xs => xs.length * Tryd.prog.bytesOf 5 ≤ reachBytes ∧ ∀ a, a ∈ xs → (Lit.int .u8 a).wf = true) := Opens.slice Tryd.underlying33 (by kernel_rfl) opensByte
theorem opensRows : Opens Tryd.prog 38 (Kd.slice 33 (Kd.slice 5 (Kd.int .u8))) (fun xss => xss.length * Tryd.prog.bytesOf 33 ≤ reachBytes ∧ ∀ xs, xs ∈ xss → (xs.length * Tryd.prog.bytesOf 5 ≤ reachBytes ∧ ∀ a, a ∈ xs → (Lit.int .u8 a).wf = true)) := Opens.slice Tryd.underlying38 (by kernel_rfl) opensBytes
theorem wfB {l : List Int} (h : ∀ x ∈ l, (Lit.int .u8 x).wf = true) : BytesOk l := by
  intro x hx
  have := h x hx
  simp only [Lit.wf, IntKind.min, IntKind.max, IntKind.signed, IntKind.bits, Bool.and_eq_true, decide_eq_true_eq] at this
  simp at this
  omega
theorem wfI {a : Int} (h : (Lit.int .i64 a).wf = true) : -9223372036854775808 ≤ a ∧ a < 9223372036854775808 := by
  simp only [Lit.wf, IntKind.min, IntKind.max, IntKind.signed, IntKind.bits, Bool.and_eq_true, decide_eq_true_eq, if_true] at h
  omega
theorem opensRec : Opens Tryd.prog 40 k40 RecOk := by
  have h := (Opens.struct (P := Tryd.prog) (t := 40) Tryd.underlying40 (by kernel_rfl) (OpensF.cons rfl rfl opensInt rfl (OpensF.cons rfl rfl opensInt rfl (OpensF.cons rfl rfl opensBytes rfl (OpensF.cons rfl rfl opensInt rfl (OpensF.cons rfl rfl opensBytes rfl (OpensF.one rfl rfl opensRows))))))).iso (fun x : Rec => (x.f0, x.f1, x.f2, x.f3, x.f4, x.f5)) (fun y => ⟨y.1, y.2.1, y.2.2.1, y.2.2.2.1, y.2.2.2.2.1, y.2.2.2.2.2⟩) (fun _ => rfl)
  refine h.imp fun x hx => ?_
  obtain ⟨h0, h1, h2, h3, h4, h5⟩ := hx
  exact ⟨(wfI h0).1, (wfI h0).2, wfB h2.2, wfB h4.2, fun p hp => wfB (h5.2 p hp).2⟩
theorem opensRecs : Opens Tryd.prog 41 (Kd.slice 40 k40) (fun xs => xs.length * Tryd.prog.bytesOf 40 ≤ reachBytes ∧ ∀ a, a ∈ xs → RecOk a) := Opens.slice Tryd.underlying41 (by kernel_rfl) opensRec
theorem opensRecss : Opens Tryd.prog 78 (Kd.slice 41 (Kd.slice 40 k40)) (fun xss => xss.length * Tryd.prog.bytesOf 41 ≤ reachBytes ∧ ∀ xs, xs ∈ xss → (xs.length * Tryd.prog.bytesOf 40 ≤ reachBytes ∧ ∀ a, a ∈ xs → RecOk a)) := Opens.slice Tryd.underlying78 (by kernel_rfl) opensRecs
theorem each_mem {H : Type} {P : Program} : ∀ {ts : List TypeId} {ds : List (DataW H)} (h : (DataW.weightsEach P ts ds).all (· ≤ reachBytes) = true) (j : Nat) (t : TypeId) (d : DataW H), ts[j]? = some t → ds[j]? = some d → ∀ n ∈ d.weights P t, n ≤ reachBytes
  | [], _, _, j, t, d, ht, _ => by simp at ht
  | t0 :: ts, [], _, j, t, d, _, hd => by simp at hd
  | t0 :: ts, d0 :: ds, h, j, t, d, ht, hd => by
    simp only [DataW.weightsEach, List.all_append, Bool.and_eq_true] at h
    cases j with
    | zero =>
      obtain rfl := Option.some.inj ht
      obtain rfl := Option.some.inj hd
      intro n hn
      have := List.all_eq_true.1 h.1 n hn
      simpa using this
    | succ j => exact each_mem h.2 j t d (by simpa using ht) (by simpa using hd)
section
variable {H : Type} {enc : TypeId × Value → H} {w : World} {base : Nat} {spare : Nat → Bool} {held : Bool} {r : Reach} {b0 : Nat} {v : Value} {d : DataW H} {p : List MemPlace}
set_option maxRecDepth 100000 in
theorem rec_param (hv : Value.okWide Tryd.prog w r b0 40 v) (h : DataW.Trod enc Tryd.prog w base spare held 40 v d p) (hw : ∀ n ∈ d.weights Tryd.prog 40, n ≤ reachBytes) :
    ∃ (x : Rec) (q : Rows6), v = recAgg x q ∧ RecC w q x ∧ RecOk x := by
  obtain ⟨cs, rfl, hsz⟩ := okWide_struct Tryd.underlying40 hv
  obtain ⟨fuel, hf⟩ := h
  obtain ⟨x, hK, ho⟩ := opensRec.get (cs := cs.toList) hf hw
  obtain ⟨A2, c2, A4, c4, A5, c5, hcs, l2, g2, l4, g4, l5, g5⟩ := k40_open hK
  refine ⟨x, ⟨A2, c2, A4, c4, A5, c5⟩, ?_, ⟨l2, g2, l4, g4, l5, g5⟩, ho⟩
  unfold recAgg
  exact congrArg Value.agg (Array.ext' hcs)
set_option maxRecDepth 100000 in
theorem recss_param (hv : Value.okWide Tryd.prog w r b0 78 v) (h : DataW.Trod enc Tryd.prog w base spare held 78 v d p) (hw : ∀ n ∈ d.weights Tryd.prog 78, n ≤ reachBytes) :
    ∃ (A : Option Addr) (c : Nat) (xss : List (List Rec)), v = .slice A xss.length c ∧ xss.length ≤ c ∧ Kd.C (Kd.slice 40 k40) w A xss.length xss ∧ ∀ xs ∈ xss, ∀ a ∈ xs, RecOk a := by
  obtain ⟨A, len, cap, rfl⟩ := okWide_slice Tryd.underlying78 hv
  obtain ⟨fuel, hf⟩ := h
  obtain ⟨xss, rfl, hl, hC, hwf⟩ := opensRecss.param hf hw
  exact ⟨A, cap, xss, rfl, hl, hC, fun xs hx => (hwf.2 xs hx).2⟩
end
end Go.Proofs.YteamljekjncbfaaDoor.P
end
section
namespace Go.Proofs.YteamljekjncbfaaDoorW.PrintWords
open Go.ChangeShapes Go.WideShapes
end Go.Proofs.YteamljekjncbfaaDoorW.PrintWords
end
