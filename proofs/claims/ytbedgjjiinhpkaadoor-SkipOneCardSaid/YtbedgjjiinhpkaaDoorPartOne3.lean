/- Lemmas of this claim, part 3. -/
import Derived.Test.YtbedgjjiinhpkaaDoorPartOne2
import Derived.Lib.ItoaNum
import Derived.WalkSpells
import Derived.WalkLawsBesides
import Derived.Deep.RegionHeld3
import Derived.IntWalk
section
namespace Go.Proofs.YtbedgjjiinhpkaaDoor.P
open Go.RowKit Go.Proofs.YtbedgjjiinhpkaaDoorW.PrintWords Go.Proofs.YtbedgjjiinhpkaaDoorW.PrintLast Go.Proofs.YtbedgjjiinhpkaaDoorW.PrintMore
attribute [local go_sem] max2_int min2_int max_two min_two max_three min_three max_four min_four
set_option linter.unusedVariables false
set_option linter.unusedSimpArgs false
def annalslaw14_awake.f (k : Nat)  : Option (Bool) := (skip_Way.f k 7 0).bind fun t240 => ((slices_Equal_int_int.f k t240 (([6, 4, 0] : List Int))).bind fun t246 => (if t246 = true then ((skip_Next.f k 6 0).bind fun t247 => (some (t247 == 4))) else (some false)))
set_option maxHeartbeats 8000000 in
set_option maxRecDepth 100000 in
theorem annalslaw14_awake.calls (k : Nat)  (r : Bool) (w : World) (hGT : GlobT w) (h : annalslaw14_awake.f k  = some r) :
    Calls Tryd.prog 27 #[] w fun e w' => e = .returned (.bool r) ∧ Below w.heap.size w w' := by
  have HGT := Aside0.mk hGT
  clear hGT
  have HB := Aside0.mk (Below.refl w.heap.size w)
  have H : ((skip_Way.f k 7 0).bind fun t240 => ((slices_Equal_int_int.f k t240 (([6, 4, 0] : List Int))).bind fun t246 => (if t246 = true then ((skip_Next.f k 6 0).bind fun t247 => (some (t247 == 4))) else (some false)))) = some r := h
  clear h
  replace H := Option.bind_eq_some_iff.mp H
  obtain ⟨t240, A10, H⟩ := H
  replace H : ((slices_Equal_int_int.f k t240 (([6, 4, 0] : List Int))).bind fun t246 => (if t246 = true then ((skip_Next.f k 6 0).bind fun t247 => (some (t247 == 4))) else (some false))) = some r := H
  have A1 := Aside0.mk A10
  clear A10
  obtain ⟨y243, hy243⟩ : ∃ y_ : List Int, y_ = (([6, 4, 0] : List Int)) := ⟨_, rfl⟩
  replace H : ((slices_Equal_int_int.f k t240 y243).bind fun t246 => (if t246 = true then ((skip_Next.f k 6 0).bind fun t247 => (some (t247 == 4))) else (some false))) = some r := by first | (rw [hy243]; with_reducible exact H) | (have H2_ := (Option.bind_some _ _).symm.trans H; rw [hy243]; with_reducible exact H2_) | (have H2_ := (Option.bind_some _ _).symm.trans H; with_reducible exact H2_) | with_reducible exact H | (rw [hy243]; exact H) | exact H
  have Ny243 := Aside0.mk hy243
  clear hy243
  replace H := Option.bind_eq_some_iff.mp H
  obtain ⟨t246, A20, H⟩ := H
  replace H : (if t246 = true then ((skip_Next.f k 6 0).bind fun t247 => (some (t247 == 4))) else (some false)) = some r := H
  have A2 := Aside0.mk A20
  clear A20
  by_cases c3 : t246 = true
  · subst c3
    have H1 : ((skip_Next.f k 6 0).bind fun t247 => (some (t247 == 4))) = some r := by rw [if_pos rfl] at H; exact H
    clear H
    have H := H1
    clear H1
    replace H := Option.bind_eq_some_iff.mp H
    obtain ⟨t247, A40, H⟩ := H
    replace H : (some (t247 == 4)) = some r := H
    have A4 := Aside0.mk A40
    clear A40
    obtain rfl := Option.some.inj H
    go_enter Tryd.func27, Tryd.ntmps27
    go_wp2_with (first | ((with_reducible refine gate_callee (f := 23) rfl ?_); refine goesL_ (some 1) rfl rfl Tryd.func23 (by kernel_rfl) rfl #[.int .i64 7, .int .i64 0] rfl (by (try simp only [List.map_toArray, List.map_cons, List.map_nil]); first | done | rfl | (simp only [List.length_drop, List.length_take]; rfl)) ?_; (with_reducible refine (skip_Way.calls k 7 0 t240 _ (by first | (with_reducible exact HGT.out) | exact GlobT.of HGT.out (by repeat (first | (with_reducible first | exact HB.out | apply below_alloc | apply pw_below_drewN | apply below_drew1) | exact HB.out)) | exact GlobT.of HGT.out (by repeat (first | exact Below.refl _ _ | apply below_alloc | apply pw_below_drewN | apply below_drew1))) A1.out).mono ?_); rintro e w5 ⟨v241, rfl, ho0, hb⟩; refine ⟨_, rfl, ?_⟩; have n0_ := Aside0.mk (Kd.R_lower ho0 (below_size (by repeat (first | (with_reducible first | exact HB.out | apply below_alloc | apply pw_below_drewN | apply below_drew1) | exact HB.out)))); have n1_ := Aside0.mk (below_step (by repeat (first | (with_reducible first | exact HB.out | apply below_alloc | apply pw_below_drewN | apply below_drew1) | exact HB.out)) hb); clear HB; have HO242 := n0_; have HB := n1_; clear n0_ n1_; (try clear hb); (try clear hb2); (try clear hk); (try clear hi); (try clear ho0)) | ((with_reducible refine gate_dst (N := 2) rfl ?_); refine Kd.R_lit (Kd.int .i64) _ 3 ?hg (N := 2) ?hd (xs := ([6, 4, 0] : List Int)) (inner := [.int .i64 6, .int .i64 4, .int .i64 0]) (ok := fun _ => True) (okp := fun _ => True) ?hr ?hp (fun _ hk => hk) trivial (Below.refl _ _) (Nat.le_refl _) (by simp) ?_; (case hd => rfl); (case hg => rfl); (case hr => first | (go_simp; done) | (go_simp; rfl)); (case hp => exact (Reps.one (show Kd.M (Kd.int .i64) _ _ _ 6 [.int .i64 6] from rfl) (Reps.one (show Kd.M (Kd.int .i64) _ _ _ 4 [.int .i64 4] from rfl) (Reps.one (show Kd.M (Kd.int .i64) _ _ _ 0 [.int .i64 0] from rfl) (Reps.none _ _))))); intro v244 w6 ho7 hb hg_ hnew_; clear hg_ hnew_; (first | rw [← Ny243.out] at ho7 | (simp only [Int.reduceToNat] at ho7; rw [← Ny243.out] at ho7)); have n0_ := Aside0.mk (Kd.R_elder' (by (with_reducible repeat (first | apply Kd.R_alloc | apply Kd.R_drewN | apply Kd.R_drew)); exact HO242.out) (Kd.R_base ho7) hb); have n1_ := Aside0.mk (Kd.R_lower (Kd.R_new' ho7 (Kd.R_lt (by (with_reducible repeat (first | apply Kd.R_alloc | apply Kd.R_drewN | apply Kd.R_drew)); exact HO242.out))) (below_size (by repeat (first | (with_reducible first | exact HB.out | apply below_alloc | apply pw_below_drewN | apply below_drew1) | exact HB.out)))); have n2_ := Aside0.mk (below_step (by repeat (first | (with_reducible first | exact HB.out | apply below_alloc | apply pw_below_drewN | apply below_drew1) | exact HB.out)) hb); clear HO242; clear HB; have HO242 := n0_; have HO245 := n1_; have HB := n2_; clear n0_ n1_ n2_; clear hb ho7; obtain ⟨Ao8, co8, eo8⟩ := Kd.R_slice HO242.out; subst eo8; obtain ⟨Ao9, co9, eo9⟩ := Kd.R_slice HO245.out; subst eo9) | ((with_reducible refine gate_callee (f := 18) rfl ?_); refine goesL_ (some 3) rfl rfl Tryd.func18 (by kernel_rfl) rfl #[.slice Ao8 t240.length co8, .slice Ao9 y243.length co9] rfl (by (try simp only [List.map_toArray, List.map_cons, List.map_nil]); first | done | rfl | (simp only [List.length_drop, List.length_take]; rfl)) ?_; (with_reducible refine (slices_Equal_int_int.calls k _ _ t240 _ _ y243 true _ ?side1 ?side2 ?side3 ?side4 A2.out).mono ?_); (case side1 => repeat (first | exact (Kd.R_reads' HO242.out).2.2 | (with_reducible refine Kd.C_alloc ?_ _) | (with_reducible refine Kd.C_drewN ?_ _) | (with_reducible refine Kd.C_drew ?_))); (case side2 => exact (Kd.R_reads' HO242.out).2.1); (case side3 => repeat (first | exact (Kd.R_reads' HO245.out).2.2 | (with_reducible refine Kd.C_alloc ?_ _) | (with_reducible refine Kd.C_drewN ?_ _) | (with_reducible refine Kd.C_drew ?_))); (case side4 => exact (Kd.R_reads' HO245.out).2.1); rintro e w' ⟨rfl, ⟨nd, rfl⟩⟩; refine ⟨_, rfl, ?_⟩) | (go_at_call 21; (with_reducible refine (skip_Next.calls k 6 0 t247 _ (by first | (with_reducible exact HGT.out) | exact GlobT.of HGT.out (by repeat (first | (with_reducible first | exact HB.out | apply below_alloc | apply pw_below_drewN | apply below_drew1) | exact HB.out)) | exact GlobT.of HGT.out (by repeat (first | exact Below.refl _ _ | apply below_alloc | apply pw_below_drewN | apply below_drew1))) A4.out).mono ?_); rintro e w10 ⟨rfl, hb⟩; have n0_ := Aside0.mk (Kd.R_below (by (with_reducible repeat (first | apply Kd.R_alloc | apply Kd.R_drewN | apply Kd.R_drew)); exact HO242.out) hb); have n1_ := Aside0.mk (Kd.R_below (by (with_reducible repeat (first | apply Kd.R_alloc | apply Kd.R_drewN | apply Kd.R_drew)); exact HO245.out) hb); have n2_ := Aside0.mk (below_step (by repeat (first | (with_reducible first | exact HB.out | apply below_alloc | apply pw_below_drewN | apply below_drew1) | exact HB.out)) hb); clear HO242; clear HO245; clear HB; have HO242 := n0_; have HO245 := n1_; have HB := n2_; clear n0_ n1_ n2_; (try clear hb); (try clear hb2); (try clear hk); (try clear hi)))
    go_ret
    exact ⟨by first | rfl | (simp [errW_none, errW_some] <;> rfl) | (simp [*, errW_none, errW_some] <;> rfl), by repeat (first | (with_reducible first | exact HB.out | apply below_alloc | apply pw_below_drewN | apply below_drew1) | exact HB.out)⟩
  · replace c3 := Bool.eq_false_iff.mpr c3
    subst c3
    have H1 : (some false) = some r := by rw [if_neg (show ¬ (false = true) by decide)] at H; exact H
    clear H
    have H := H1
    clear H1
    obtain rfl := Option.some.inj H
    go_enter Tryd.func27, Tryd.ntmps27
    go_wp2_with (first | ((with_reducible refine gate_callee (f := 23) rfl ?_); refine goesL_ (some 1) rfl rfl Tryd.func23 (by kernel_rfl) rfl #[.int .i64 7, .int .i64 0] rfl (by (try simp only [List.map_toArray, List.map_cons, List.map_nil]); first | done | rfl | (simp only [List.length_drop, List.length_take]; rfl)) ?_; (with_reducible refine (skip_Way.calls k 7 0 t240 _ (by first | (with_reducible exact HGT.out) | exact GlobT.of HGT.out (by repeat (first | (with_reducible first | exact HB.out | apply below_alloc | apply pw_below_drewN | apply below_drew1) | exact HB.out)) | exact GlobT.of HGT.out (by repeat (first | exact Below.refl _ _ | apply below_alloc | apply pw_below_drewN | apply below_drew1))) A1.out).mono ?_); rintro e w11 ⟨v241, rfl, ho0, hb⟩; refine ⟨_, rfl, ?_⟩; have n0_ := Aside0.mk (Kd.R_lower ho0 (below_size (by repeat (first | (with_reducible first | exact HB.out | apply below_alloc | apply pw_below_drewN | apply below_drew1) | exact HB.out)))); have n1_ := Aside0.mk (below_step (by repeat (first | (with_reducible first | exact HB.out | apply below_alloc | apply pw_below_drewN | apply below_drew1) | exact HB.out)) hb); clear HB; have HO242 := n0_; have HB := n1_; clear n0_ n1_; (try clear hb); (try clear hb2); (try clear hk); (try clear hi); (try clear ho0)) | ((with_reducible refine gate_dst (N := 2) rfl ?_); refine Kd.R_lit (Kd.int .i64) _ 3 ?hg (N := 2) ?hd (xs := ([6, 4, 0] : List Int)) (inner := [.int .i64 6, .int .i64 4, .int .i64 0]) (ok := fun _ => True) (okp := fun _ => True) ?hr ?hp (fun _ hk => hk) trivial (Below.refl _ _) (Nat.le_refl _) (by simp) ?_; (case hd => rfl); (case hg => rfl); (case hr => first | (go_simp; done) | (go_simp; rfl)); (case hp => exact (Reps.one (show Kd.M (Kd.int .i64) _ _ _ 6 [.int .i64 6] from rfl) (Reps.one (show Kd.M (Kd.int .i64) _ _ _ 4 [.int .i64 4] from rfl) (Reps.one (show Kd.M (Kd.int .i64) _ _ _ 0 [.int .i64 0] from rfl) (Reps.none _ _))))); intro v244 w12 ho13 hb hg_ hnew_; clear hg_ hnew_; (first | rw [← Ny243.out] at ho13 | (simp only [Int.reduceToNat] at ho13; rw [← Ny243.out] at ho13)); have n0_ := Aside0.mk (Kd.R_elder' (by (with_reducible repeat (first | apply Kd.R_alloc | apply Kd.R_drewN | apply Kd.R_drew)); exact HO242.out) (Kd.R_base ho13) hb); have n1_ := Aside0.mk (Kd.R_lower (Kd.R_new' ho13 (Kd.R_lt (by (with_reducible repeat (first | apply Kd.R_alloc | apply Kd.R_drewN | apply Kd.R_drew)); exact HO242.out))) (below_size (by repeat (first | (with_reducible first | exact HB.out | apply below_alloc | apply pw_below_drewN | apply below_drew1) | exact HB.out)))); have n2_ := Aside0.mk (below_step (by repeat (first | (with_reducible first | exact HB.out | apply below_alloc | apply pw_below_drewN | apply below_drew1) | exact HB.out)) hb); clear HO242; clear HB; have HO242 := n0_; have HO245 := n1_; have HB := n2_; clear n0_ n1_ n2_; clear hb ho13; obtain ⟨Ao14, co14, eo14⟩ := Kd.R_slice HO242.out; subst eo14; obtain ⟨Ao15, co15, eo15⟩ := Kd.R_slice HO245.out; subst eo15) | ((with_reducible refine gate_callee (f := 18) rfl ?_); refine goesL_ (some 3) rfl rfl Tryd.func18 (by kernel_rfl) rfl #[.slice Ao14 t240.length co14, .slice Ao15 y243.length co15] rfl (by (try simp only [List.map_toArray, List.map_cons, List.map_nil]); first | done | rfl | (simp only [List.length_drop, List.length_take]; rfl)) ?_; (with_reducible refine (slices_Equal_int_int.calls k _ _ t240 _ _ y243 false _ ?side1 ?side2 ?side3 ?side4 A2.out).mono ?_); (case side1 => repeat (first | exact (Kd.R_reads' HO242.out).2.2 | (with_reducible refine Kd.C_alloc ?_ _) | (with_reducible refine Kd.C_drewN ?_ _) | (with_reducible refine Kd.C_drew ?_))); (case side2 => exact (Kd.R_reads' HO242.out).2.1); (case side3 => repeat (first | exact (Kd.R_reads' HO245.out).2.2 | (with_reducible refine Kd.C_alloc ?_ _) | (with_reducible refine Kd.C_drewN ?_ _) | (with_reducible refine Kd.C_drew ?_))); (case side4 => exact (Kd.R_reads' HO245.out).2.1); rintro e w' ⟨rfl, ⟨nd, rfl⟩⟩; refine ⟨_, rfl, ?_⟩))
    go_ret
    exact ⟨by first | rfl | (simp [errW_none, errW_some] <;> rfl) | (simp [*, errW_none, errW_some] <;> rfl), by repeat (first | (with_reducible first | exact HB.out | apply below_alloc | apply pw_below_drewN | apply below_drew1) | exact HB.out)⟩
end Go.Proofs.YtbedgjjiinhpkaaDoor.P
end
section
namespace Go.Proofs.YtbedgjjiinhpkaaDoor.P
open Go.RowKit Go.Proofs.YtbedgjjiinhpkaaDoorW.PrintWords Go.Proofs.YtbedgjjiinhpkaaDoorW.PrintLast Go.Proofs.YtbedgjjiinhpkaaDoorW.PrintMore
attribute [local go_sem] max2_int min2_int max_two min_two max_three min_three max_four min_four
set_option linter.unusedVariables false
set_option linter.unusedSimpArgs false
def skip_Most.f (a0 : Int) : Option (Int) := (bits_Len.f (IntKind.u64.wrap (mx a0 0))).bind fun t608 => (some (wrap64 (2 * t608)))
end Go.Proofs.YtbedgjjiinhpkaaDoor.P
end
section
namespace Go.Proofs.YtbedgjjiinhpkaaDoor.P
open Go.RowKit Go.Proofs.YtbedgjjiinhpkaaDoorW.PrintWords Go.Proofs.YtbedgjjiinhpkaaDoorW.PrintLast Go.Proofs.YtbedgjjiinhpkaaDoorW.PrintMore
attribute [local go_sem] max2_int min2_int max_two min_two max_three min_three max_four min_four
set_option linter.unusedVariables false
set_option linter.unusedSimpArgs false
def annalsref14_Most.l0 : Nat → Int → Int → Option (Int)
  | 0, _, _ => none
  | k + 1, x0, x3 => if x0 > 1 then (annalsref14_Most.l0 k (wrap64 (Int.tdiv x0 2)) (wrap64 (x3 + 2))) else (some x3)
def annalsref14_Most.f (k : Nat) (a0 : Int) : Option (Int) := if a0 < 1 then (some 0) else (annalsref14_Most.l0 k a0 2)
end Go.Proofs.YtbedgjjiinhpkaaDoor.P
end
section
namespace Go.Proofs.YtbedgjjiinhpkaaDoor.P
open Go.RowKit Go.Proofs.YtbedgjjiinhpkaaDoorW.PrintWords Go.Proofs.YtbedgjjiinhpkaaDoorW.PrintLast Go.Proofs.YtbedgjjiinhpkaaDoorW.PrintMore
attribute [local go_sem] max2_int min2_int max_two min_two max_three min_three max_four min_four
set_option linter.unusedVariables false
set_option linter.unusedSimpArgs false
def skip_Links.l0 : Nat → Int → List Int → Int → Int → Option (List Int)
  | 0, _, _, _, _ => none
  | k + 1, x0, x3, x10, x11 => if x11 < x10 then (if 0 ≤ x11 then (if x3.length < 17592186044416 then (skip_Links.l0 k x0 (x3 ++ [wrap64 (x0 - (shl .i64 1 x11))]) x10 (wrap64 (x11 + 1))) else (none)) else (none)) else (some x3)
def skip_Links.f (k : Nat) (a0 : Int) : Option (List Int) := if a0 > 0 then ((bits_TrailingZeros.f (IntKind.u64.wrap (a0))).bind fun t604 => (skip_Links.l0 k a0 ([] : List Int) (wrap64 (t604 + 1)) 0)) else (some ([] : List Int))
end Go.Proofs.YtbedgjjiinhpkaaDoor.P
end
section
namespace Go.Proofs.YtbedgjjiinhpkaaDoor.P
open Go.RowKit Go.Proofs.YtbedgjjiinhpkaaDoorW.PrintWords Go.Proofs.YtbedgjjiinhpkaaDoorW.PrintLast Go.Proofs.YtbedgjjiinhpkaaDoorW.PrintMore
attribute [local go_sem] max2_int min2_int max_two min_two max_three min_three max_four min_four
set_option linter.unusedVariables false
set_option linter.unusedSimpArgs false
def annalsref14_Links.l0 : Nat → Int → List Int → Int → Option (List Int)
  | 0, _, _, _ => none
  | k + 1, x0, x3, x4 => if x4 > 0 then (if x4 ≤ x0 then (if x4 = 0 then (none) else (if (Int.tmod x0 x4) = 0 then (if x3.length < 17592186044416 then (annalsref14_Links.l0 k x0 (x3 ++ [wrap64 (x0 - x4)]) (wrap64 (2 * x4))) else (none)) else (some x3))) else (some x3)) else (some x3)
def annalsref14_Links.f (k : Nat) (a0 : Int) : Option (List Int) := annalsref14_Links.l0 k a0 ([] : List Int) 1
end Go.Proofs.YtbedgjjiinhpkaaDoor.P
end
section
namespace Go.Proofs.YtbedgjjiinhpkaaDoor.P
open Go.RowKit Go.Proofs.YtbedgjjiinhpkaaDoorW.PrintWords Go.Proofs.YtbedgjjiinhpkaaDoorW.PrintLast Go.Proofs.YtbedgjjiinhpkaaDoorW.PrintMore
attribute [local go_sem] max2_int min2_int max_two min_two max_three min_three max_four min_four
set_option linter.unusedVariables false
set_option linter.unusedSimpArgs false
def annalsref14_Next.l0 : Nat → Int → Int → List Int → Int → Int → Option (Int)
  | 0, _, _, _, _, _ => none
  | k + 1, x1, x5, x13, x14, x15 => if x15 < x14 then (if 0 ≤ x15 then (if x15 < (x13.length : Int) then (if (rd x13 x15) ≥ x1 then (annalsref14_Next.l0 k x1 (rd x13 x15) x13 x14 (wrap64 (x15 + 1))) else (annalsref14_Next.l0 k x1 x5 x13 x14 (wrap64 (x15 + 1)))) else (none)) else (none)) else (some x5)
def annalsref14_Next.f (k : Nat) (a0 : Int) (a1 : Int) : Option (Int) := if a1 < 0 then (some a0) else ((annalsref14_Links.f k a0).bind fun t349 => (annalsref14_Next.l0 k a1 a0 t349 (t349.length : Int) 0))
end Go.Proofs.YtbedgjjiinhpkaaDoor.P
end
section
namespace Go.Proofs.YtbedgjjiinhpkaaDoor.P
open Go.RowKit Go.Proofs.YtbedgjjiinhpkaaDoorW.PrintWords Go.Proofs.YtbedgjjiinhpkaaDoorW.PrintLast Go.Proofs.YtbedgjjiinhpkaaDoorW.PrintMore
attribute [local go_sem] max2_int min2_int max_two min_two max_three min_three max_four min_four
set_option linter.unusedVariables false
set_option linter.unusedSimpArgs false
mutual
def annalsref14_Way.j0 : Nat → Int → Int → Bool → Option (List Int)
  | 0, _, _, _ => none
  | k + 1, x0, x1, x16 => if x16 = true then (some ([] : List Int)) else (annalsref14_Way.l0 k x0 x1 ([] : List Int))
def annalsref14_Way.l0 : Nat → Int → Int → List Int → Option (List Int)
  | 0, _, _, _ => none
  | k + 1, x0, x1, x5 => if x0 > x1 then ((annalsref14_Next.f k x0 x1).bind fun t353 => (if x5.length < 17592186044416 then (annalsref14_Way.l0 k t353 x1 (x5 ++ [t353])) else (none))) else (some x5)
end
def annalsref14_Way.f (k : Nat) (a0 : Int) (a1 : Int) : Option (List Int) := if a1 < 0 then (annalsref14_Way.j0 k a0 a1 true) else (if a1 ≥ a0 then (annalsref14_Way.j0 k a0 a1 true) else (annalsref14_Way.j0 k a0 a1 (decide (a0 > 1048576))))
end Go.Proofs.YtbedgjjiinhpkaaDoor.P
end
section
set_option linter.unusedVariables false
set_option linter.unusedSimpArgs false
namespace Go.Proofs.YtbedgjjiinhpkaaDoor.Pure
open Go.RowKit Go.Proofs.YtbedgjjiinhpkaaDoor.P Go.Proofs.YtbedgjjiinhpkaaDoorW.PrintWords Go.Proofs.YtbedgjjiinhpkaaDoorW.PrintLast Go.Proofs.YtbedgjjiinhpkaaDoorW.PrintMore
theorem equal_l0 (l : List Int) (hl : l.length < 1000000000) : ∀ (d k : Nat) (i : Int), 0 ≤ i → i ≤ l.length → (l.length : Int) - i = d → d < k →
    slices_Equal_int_int.l0 k l l (l.length : Int) i = some true := by
  intro d
  induction d with
  | zero =>
    intro k i h0 h1 hd hk
    obtain ⟨k, rfl⟩ : ∃ m, k = m + 1 := ⟨k - 1, by omega⟩
    simp only [slices_Equal_int_int.l0]
    rw [if_neg (by omega)]
  | succ d ih =>
    intro k i h0 h1 hd hk
    obtain ⟨k, rfl⟩ : ∃ m, k = m + 1 := ⟨k - 1, by omega⟩
    simp only [slices_Equal_int_int.l0]
    rw [if_pos (by omega), if_pos h0, if_pos (by omega), if_pos (by omega), if_pos trivial, show wrap64 (i + 1) = i + 1 from by unfold wrap64; omega]
    exact ih k (i + 1) (by omega) (by omega) (by omega) (by omega)
theorem equal_same (l : List Int) (hl : l.length < 1000000000) (k : Nat) (hk : l.length < k) : slices_Equal_int_int.f k l l = some true := by
  unfold slices_Equal_int_int.f
  rw [if_pos rfl]
  exact equal_l0 l hl l.length k 0 (by omega) (by omega) (by omega) hk
def p2 (j : Nat) : Nat := 2 ^ j
theorem p2_pos (j : Nat) : 0 < p2 j := Nat.pow_pos (by decide)
theorem p2_succ (j : Nat) : p2 (j + 1) = 2 * p2 j := by unfold p2; rw [Nat.pow_succ]; omega
theorem p2_mono {i j : Nat} (h : i ≤ j) : p2 i ≤ p2 j := Nat.pow_le_pow_right (by decide) h
theorem p2_dvd {i j : Nat} (h : i ≤ j) : p2 i ∣ p2 j := Nat.pow_dvd_pow 2 h
theorem p2_0 : p2 0 = 1 := rfl
theorem p2_62 : p2 62 = 4611686018427387904 := by decide
theorem p2_63 : p2 63 = 9223372036854775808 := by decide
def vz (f : Nat) : Nat := Lib.ctz 64 f
def bl (d : Nat) : Nat := Lib.bitLen d
theorem vz_odd (f : Nat) (h0 : 0 < f) (h1 : f < 9223372036854775808) : ∃ m, f = p2 (vz f) * (2 * m + 1) := by
  unfold vz Lib.ctz p2
  rw [if_neg (by omega)]
  obtain ⟨m, hm, hk⟩ := Lib.ctzFrom_spec 64 f h0 (by omega)
  exact ⟨m, hm⟩
theorem vz_spec (f : Nat) (h0 : 0 < f) (h1 : f < 9223372036854775808) : vz f < 63 ∧ p2 (vz f) ≤ f := by
  obtain ⟨m, hm⟩ := vz_odd f h0 h1
  have hle : p2 (vz f) ≤ f := by
    have : p2 (vz f) ≤ p2 (vz f) * (2 * m + 1) := Nat.le_mul_of_pos_right _ (by omega)
    omega
  refine ⟨?_, hle⟩
  apply Nat.lt_of_not_le
  intro h
  have := p2_mono h
  rw [p2_63] at this
  omega
theorem bl_spec (d : Nat) (h0 : 0 < d) (h1 : d < 9223372036854775808) : 1 ≤ bl d ∧ bl d ≤ 63 ∧ p2 (bl d - 1) ≤ d ∧ d < p2 (bl d) := by
  unfold bl Lib.bitLen
  obtain ⟨a, b, c⟩ := Lib.bitLenAux_bounds 64 d (by omega) (by omega)
  refine ⟨a, ?_, b, c⟩
  apply Nat.le_of_not_lt
  intro h
  have := p2_mono (show 63 ≤ Lib.bitLenAux 64 d - 1 by omega)
  rw [p2_63] at this
  unfold p2 at this
  omega
theorem bl_zero : bl 0 = 0 := by decide
theorem vz_ge {f j : Nat} (h0 : 0 < f) (h1 : f < 9223372036854775808) (hd : p2 j ∣ f) : j ≤ vz f := by
  obtain ⟨m, hm⟩ := vz_odd f h0 h1
  apply Nat.le_of_not_lt
  intro hlt
  have h2 : p2 (vz f + 1) ∣ f := Nat.dvd_trans (p2_dvd hlt) hd
  rw [p2_succ, Nat.mul_comm] at h2
  generalize vz f = v at *
  rw [hm] at h2
  have h3 := Nat.dvd_of_mul_dvd_mul_left (p2_pos v) h2
  omega
theorem vz_dvd {f j : Nat} (h0 : 0 < f) (h1 : f < 9223372036854775808) (hj : j ≤ vz f) : p2 j ∣ f := by
  obtain ⟨m, hm⟩ := vz_odd f h0 h1
  have h2 := p2_dvd hj
  generalize vz f = v at *
  rw [hm]
  exact Nat.dvd_trans h2 (Nat.dvd_mul_right _ _)
theorem tz_f (f : Nat) (h1 : f < 9223372036854775808) : bits_TrailingZeros.f (IntKind.u64.wrap (f : Int)) = some (vz f : Int) := by
  have e : IntKind.u64.wrap (f : Int) = (f : Int) := by rw [IntKind.wrap_u64]; omega
  rw [e]
  unfold bits_TrailingZeros.f
  rw [if_pos (by omega), if_pos (by omega), Int.toNat_natCast]
  rfl
theorem len_f (d : Nat) (h1 : d < 9223372036854775808) : bits_Len.f (IntKind.u64.wrap (d : Int)) = some (bl d : Int) := by
  have e : IntKind.u64.wrap (d : Int) = (d : Int) := by rw [IntKind.wrap_u64]; omega
  rw [e]
  unfold bits_Len.f
  rw [if_pos (by omega), if_pos (by omega), Int.toNat_natCast]
  rfl
theorem shl_one (j : Nat) (hj : j ≤ 62) : shl .i64 1 (j : Int) = (p2 j : Int) := by
  unfold shl
  rw [Int.toNat_natCast, Nat.min_eq_left (by simp [IntKind.bits]; omega), Int.one_mul]
  have h2 := p2_mono hj
  rw [p2_62] at h2
  have e : (2 : Int) ^ j = (p2 j : Int) := by unfold p2; rw [Int.natCast_pow]; rfl
  rw [e]
  generalize p2 j = x at *
  exact IntWalk.i64_in _ ⟨by omega, by omega⟩
theorem pow_le_of {f j : Nat} (h0 : 0 < f) (h1 : f < 9223372036854775808) (hj : j ≤ vz f) : p2 j ≤ f :=
  Nat.le_of_dvd h0 (vz_dvd h0 h1 hj)
def hop (f t : Nat) : Nat := min (vz f) (bl (f - t) - 1)
def nxt (f t : Nat) : Nat := f - p2 (hop f t)
theorem hop_le (f t : Nat) (h : t < f) (h1 : f < 9223372036854775808) : p2 (hop f t) ≤ f - t ∧ hop f t ≤ 62 := by
  have hb := bl_spec (f - t) (by omega) (by omega)
  have := p2_mono (show hop f t ≤ bl (f - t) - 1 from Nat.min_le_right _ _)
  have h2 : hop f t ≤ bl (f - t) - 1 := Nat.min_le_right _ _
  exact ⟨by omega, by omega⟩
theorem nxt_lt (f t : Nat) (h : t < f) (h1 : f < 9223372036854775808) : t ≤ nxt f t ∧ nxt f t < f := by
  have := hop_le f t h h1
  have hp : 0 < p2 (hop f t) := p2_pos _
  unfold nxt
  omega
theorem step_no (f t : Int) (h : t < 0 ∨ f ≤ t) (k : Nat) (hk : 0 < k) : skip_step.f k f t = some (-1) := by
  obtain ⟨k, rfl⟩ : ∃ m, k = m + 1 := ⟨k - 1, by omega⟩
  unfold skip_step.f
  by_cases ht : t < 0
  · rw [if_pos ht]
    simp only [skip_step.j0]
    rw [if_pos trivial]
  · rw [if_neg ht]
    simp only [skip_step.j0]
    rw [if_pos (by simp; omega)]
theorem step_yes (f t : Nat) (h : t < f) (h1 : f < 9223372036854775808) (k : Nat) (hk : 0 < k) : skip_step.f k (f : Int) (t : Int) = some (hop f t : Int) := by
  obtain ⟨k, rfl⟩ : ∃ m, k = m + 1 := ⟨k - 1, by omega⟩
  have hb := bl_spec (f - t) (by omega) (by omega)
  have hv := (vz_spec f (by omega) h1).1
  unfold skip_step.f
  rw [if_neg (by omega)]
  simp only [skip_step.j0]
  rw [if_neg (by simp; omega), tz_f f h1]
  have e : wrap64 ((f : Int) - (t : Int)) = ((f - t : Nat) : Int) := by unfold wrap64; omega
  simp only [Option.bind_some]
  rw [e, len_f (f - t) (by omega)]
  simp only [Option.bind_some]
  congr 1
  unfold hop mn wrap64
  by_cases hc : (vz f : Int) ≤ (bl (f - t) : Int) - 1
  · rw [Nat.min_eq_left (by omega)]
    split <;> omega
  · rw [Nat.min_eq_right (by omega)]
    split <;> omega
theorem next_yes (f t : Nat) (h : t < f) (h1 : f < 9223372036854775808) (k : Nat) (hk : 0 < k) : skip_Next.f k (f : Int) (t : Int) = some (nxt f t : Int) := by
  have hh := hop_le f t h h1
  unfold skip_Next.f
  rw [step_yes f t h h1 k hk]
  simp only [Option.bind_some]
  rw [if_neg (by omega), if_pos (by omega), shl_one _ hh.2]
  congr 1
  unfold nxt wrap64
  omega
def cur (f t : Nat) : Nat → Nat
  | 0 => f
  | i + 1 => if t < f then f - p2 (min i (bl (f - t) - 1)) else f
def wayL : Nat → Nat → Nat → List Int
  | 0, _, _ => []
  | n + 1, f, t => if t < f then (nxt f t : Int) :: wayL n (nxt f t) t else []
theorem way_l0 (t : Nat) : ∀ (n k f : Nat) (acc : List Int), f < 9223372036854775808 → f - t ≤ n → n + 1 < k → acc.length + n < 10000000 →
    skip_Way.l0 k (f : Int) (t : Int) acc = some (acc ++ wayL n f t) := by
  intro n
  induction n with
  | zero =>
    intro k f acc h1 hn hk ha
    obtain ⟨k, rfl⟩ : ∃ m, k = m + 1 := ⟨k - 1, by omega⟩
    simp only [skip_Way.l0, wayL]
    rw [step_no _ _ (by omega) k (by omega)]
    simp
  | succ n ih =>
    intro k f acc h1 hn hk ha
    obtain ⟨k, rfl⟩ : ∃ m, k = m + 1 := ⟨k - 1, by omega⟩
    simp only [skip_Way.l0, wayL]
    by_cases htf : t < f
    · have hx := nxt_lt f t htf h1
      rw [step_yes f t htf h1 k (by omega), if_pos htf]
      simp only [Option.bind_some]
      rw [if_pos (by omega), next_yes f t htf h1 k (by omega)]
      simp only [Option.bind_some]
      rw [if_pos (by omega), ih k (nxt f t) (acc ++ [(nxt f t : Int)]) (by omega) (by omega) (by omega) (by simp; omega)]
      simp
    · rw [step_no _ _ (by omega) k (by omega), if_neg htf]
      simp
theorem way_yes (f t : Nat) (h1 : f ≤ 1048576) (k : Nat) (hk : 1048580 < k) : skip_Way.f k (f : Int) (t : Int) = some (wayL f f t) := by
  unfold skip_Way.f
  rw [if_neg (by omega)]
  exact way_l0 t f k f [] (by omega) (by omega) (by omega) (by simp; omega)
theorem awake_f (k : Nat) (hk : 1048700 < k) : annalslaw14_awake.f k = some true := by
  unfold annalslaw14_awake.f
  have h1 := way_yes 7 0 (by omega) k (by omega)
  have h2 := next_yes 6 0 (by omega) (by omega) k (by omega)
  have e1 : wayL 7 7 0 = [6, 4, 0] := by decide +kernel
  have e2 : nxt 6 0 = 4 := by decide +kernel
  rw [e1] at h1
  rw [e2] at h2
  rw [show (7 : Int) = ((7 : Nat) : Int) from rfl, show (0 : Int) = ((0 : Nat) : Int) from rfl, show (6 : Int) = ((6 : Nat) : Int) from rfl, h1]
  simp only [Option.bind_some]
  rw [show (((6 : Nat) : Int) :: 4 :: [((0 : Nat) : Int)]) = [6, 4, 0] from rfl]
  rw [equal_same [6, 4, 0] (by simp) k (by simp; omega), h2]
  rfl
end Go.Proofs.YtbedgjjiinhpkaaDoor.Pure
end
section
namespace Go.Proofs.YtbedgjjiinhpkaaDoor.P
open Go.RowKit Go.Proofs.YtbedgjjiinhpkaaDoorW.PrintWords Go.Proofs.YtbedgjjiinhpkaaDoorW.PrintLast Go.Proofs.YtbedgjjiinhpkaaDoorW.PrintMore
attribute [local go_sem] max2_int min2_int max_two min_two max_three min_three max_four min_four
set_option linter.unusedVariables false
set_option linter.unusedSimpArgs false
def bits_RotateLeft32.f (a0 : Int) (a1 : Int) : Option (Int) := if 0 ≤ (Go.bits .and .u64 (IntKind.u64.wrap (a1)) 31) then (if 0 ≤ (IntKind.u64.wrap (32 - (Go.bits .and .u64 (IntKind.u64.wrap (a1)) 31))) then (some (Go.bits .or .u32 (shl .u32 a0 (Go.bits .and .u64 (IntKind.u64.wrap (a1)) 31)) (shr .u32 a0 (IntKind.u64.wrap (32 - (Go.bits .and .u64 (IntKind.u64.wrap (a1)) 31)))))) else (none)) else (none)
set_option maxHeartbeats 8000000 in
set_option maxRecDepth 100000 in
theorem bits_RotateLeft32.calls (a0 : Int) (a1 : Int) (r : Int) (w : World) (h : bits_RotateLeft32.f a0 a1 = some r) :
    Calls Tryd.prog 225 #[.int .u32 a0, .int .i64 a1] w fun e w' => e = .returned (.int .u32 r) ∧ Drawn0 w w' := by
  have H : (if 0 ≤ (Go.bits .and .u64 (IntKind.u64.wrap (a1)) 31) then (if 0 ≤ (IntKind.u64.wrap (32 - (Go.bits .and .u64 (IntKind.u64.wrap (a1)) 31))) then (some (Go.bits .or .u32 (shl .u32 a0 (Go.bits .and .u64 (IntKind.u64.wrap (a1)) 31)) (shr .u32 a0 (IntKind.u64.wrap (32 - (Go.bits .and .u64 (IntKind.u64.wrap (a1)) 31)))))) else (none)) else (none)) = some r := h
  clear h
  obtain ⟨ji3, hji3⟩ : ∃ j_ : Int, (Go.bits .and .u64 (IntKind.u64.wrap (a1)) 31) = j_ := ⟨_, rfl⟩
  replace H : (if 0 ≤ (ji3) then (if 0 ≤ (IntKind.u64.wrap (32 - (ji3))) then (some (Go.bits .or .u32 (shl .u32 a0 (ji3)) (shr .u32 a0 (IntKind.u64.wrap (32 - (ji3)))))) else (none)) else (none)) = some r := by first | (rw [hji3] at H; exact H) | (simp only [hji3] at H ⊢; exact H)
  by_cases c4 : 0 ≤ (ji3)
  · rw [if_pos c4] at H
    have c4b0 := eq_true c4
    have c4b1 : decide (0 ≤ (ji3)) = true := decide_eq_true c4
    clear c4
    obtain ⟨ji5, hji5⟩ : ∃ j_ : Int, (shl .u32 a0 (ji3)) = j_ := ⟨_, rfl⟩
    replace H : (if 0 ≤ (IntKind.u64.wrap (32 - (ji3))) then (some (Go.bits .or .u32 (ji5) (shr .u32 a0 (IntKind.u64.wrap (32 - (ji3)))))) else (none)) = some r := by first | (rw [hji5] at H; exact H) | (simp only [hji5] at H ⊢; exact H)
    have hji5_ : (IntKind.u32.wrap (a0 * 2 ^ min (ji3).toNat 32)) = ji5 := hji5
    have hji5z : (ji3) ≤ 32 → (IntKind.u32.wrap (a0 * 2 ^ (ji3).toNat)) = ji5 := shl_small hji5
    obtain ⟨ji6, hji6⟩ : ∃ j_ : Int, (IntKind.u64.wrap (32 - (ji3))) = j_ := ⟨_, rfl⟩
    replace H : (if 0 ≤ (ji6) then (some (Go.bits .or .u32 (ji5) (shr .u32 a0 (ji6)))) else (none)) = some r := by first | (rw [hji6] at H; exact H) | (simp only [hji6] at H ⊢; exact H)
    by_cases c7 : 0 ≤ (ji6)
    · rw [if_pos c7] at H
      have c7b0 := eq_true c7
      have c7b1 : decide (0 ≤ (ji6)) = true := decide_eq_true c7
      clear c7
      obtain ⟨ji8, hji8⟩ : ∃ j_ : Int, (shr .u32 a0 (ji6)) = j_ := ⟨_, rfl⟩
      replace H : (some (Go.bits .or .u32 (ji5) (ji8))) = some r := by first | (rw [hji8] at H; exact H) | (simp only [hji8] at H ⊢; exact H)
      have hji8_ : (a0 / 2 ^ min (ji6).toNat 32) = ji8 := hji8
      have hji8z : (ji6) ≤ 32 → (a0 / 2 ^ (ji6).toNat) = ji8 := shr_small hji8
      obtain rfl := Option.some.inj H
      go_enter Tryd.func225, Tryd.ntmps225
      go_wp2
      go_ret
      exact ⟨by first | rfl | (simp; done) | (simp only [← hji3, ← hji5, ← hji6, ← hji8] <;> (first | rfl | simp)) | (simp [*]; done), by repeat (first | exact Drawn0.refl _ | apply Drawn0.step)⟩
    · rw [if_neg c7] at H
      exact absurd H (by simp)
  · rw [if_neg c4] at H
    exact absurd H (by simp)
end Go.Proofs.YtbedgjjiinhpkaaDoor.P
end
section
namespace Go.Proofs.YtbedgjjiinhpkaaDoor.P
open Go.RowKit Go.Proofs.YtbedgjjiinhpkaaDoorW.PrintWords Go.Proofs.YtbedgjjiinhpkaaDoorW.PrintLast Go.Proofs.YtbedgjjiinhpkaaDoorW.PrintMore
attribute [local go_sem] max2_int min2_int max_two min_two max_three min_three max_four min_four
set_option linter.unusedVariables false
set_option linter.unusedSimpArgs false
def sha_gamma.f (a0 : Int) (a1 : Int) (a2 : Int) (a3 : Int) : Option (Int) := (bits_RotateLeft32.f a0 (wrap64 (32 - a1))).bind fun t115 => ((bits_RotateLeft32.f a0 (wrap64 (32 - a2))).bind fun t116 => (if 0 ≤ a3 then (some (Go.bits .xor .u32 (Go.bits .xor .u32 t115 t116) (shr .u32 a0 a3))) else (none)))
set_option maxHeartbeats 8000000 in
set_option maxRecDepth 100000 in
theorem sha_gamma.calls (a0 : Int) (a1 : Int) (a2 : Int) (a3 : Int) (r : Int) (w : World) (h : sha_gamma.f a0 a1 a2 a3 = some r) :
    Calls Tryd.prog 224 #[.int .u32 a0, .int .i64 a1, .int .i64 a2, .int .i64 a3] w fun e w' => e = .returned (.int .u32 r) ∧ Drawn0 w w' := by
  have H : ((bits_RotateLeft32.f a0 (wrap64 (32 - a1))).bind fun t115 => ((bits_RotateLeft32.f a0 (wrap64 (32 - a2))).bind fun t116 => (if 0 ≤ a3 then (some (Go.bits .xor .u32 (Go.bits .xor .u32 t115 t116) (shr .u32 a0 a3))) else (none)))) = some r := h
  clear h
  replace H := Option.bind_eq_some_iff.mp H
  obtain ⟨t115, A50, H⟩ := H
  replace H : ((bits_RotateLeft32.f a0 (wrap64 (32 - a2))).bind fun t116 => (if 0 ≤ a3 then (some (Go.bits .xor .u32 (Go.bits .xor .u32 t115 t116) (shr .u32 a0 a3))) else (none))) = some r := H
  have A5 := Aside0.mk A50
  clear A50
  replace H := Option.bind_eq_some_iff.mp H
  obtain ⟨t116, A60, H⟩ := H
  replace H : (if 0 ≤ a3 then (some (Go.bits .xor .u32 (Go.bits .xor .u32 t115 t116) (shr .u32 a0 a3))) else (none)) = some r := H
  have A6 := Aside0.mk A60
  clear A60
  by_cases c7 : 0 ≤ a3
  · rw [if_pos c7] at H
    have c7b0 := eq_true c7
    have c7b1 : decide (0 ≤ a3) = true := decide_eq_true c7
    clear c7
    obtain ⟨ji8, hji8⟩ : ∃ j_ : Int, (shr .u32 a0 a3) = j_ := ⟨_, rfl⟩
    replace H : (some (Go.bits .xor .u32 (Go.bits .xor .u32 t115 t116) (ji8))) = some r := by first | (rw [hji8] at H; exact H) | (simp only [hji8] at H ⊢; exact H)
    (try rw [hji8] at A5)
    (try rw [hji8] at A6)
    have hji8_ : (a0 / 2 ^ min a3.toNat 32) = ji8 := hji8
    have hji8z : a3 ≤ 32 → (a0 / 2 ^ a3.toNat) = ji8 := shr_small hji8
    obtain rfl := Option.some.inj H
    go_enter Tryd.func224, Tryd.ntmps224
    go_wp2_with (first | (go_at_call 225; (with_reducible refine (bits_RotateLeft32.calls a0 (wrap64 (32 - a1)) t115 _ A5.out).mono ?_); rintro e w' ⟨rfl, ⟨nd, rfl⟩⟩; (try first | exact ⟨rfl, _, World.drewN_drewN _ _ _⟩ | exact ⟨rfl, _, Eq.trans (World.drewN_drewN _ _ _) (congrArg (World.drewN _) (Nat.add_assoc _ _ _))⟩)) | (go_at_call 225; (with_reducible refine (bits_RotateLeft32.calls a0 (wrap64 (32 - a2)) t116 _ A6.out).mono ?_); rintro e w' ⟨rfl, ⟨nd, rfl⟩⟩; (try first | exact ⟨rfl, _, World.drewN_drewN _ _ _⟩ | exact ⟨rfl, _, Eq.trans (World.drewN_drewN _ _ _) (congrArg (World.drewN _) (Nat.add_assoc _ _ _))⟩)))
    repeat (go_quiet (first | (go_at_call 225; (with_reducible refine (bits_RotateLeft32.calls a0 (wrap64 (32 - a1)) t115 _ A5.out).mono ?_); rintro e w' ⟨rfl, ⟨nd, rfl⟩⟩; (try first | exact ⟨rfl, _, World.drewN_drewN _ _ _⟩ | exact ⟨rfl, _, Eq.trans (World.drewN_drewN _ _ _) (congrArg (World.drewN _) (Nat.add_assoc _ _ _))⟩)) | (go_at_call 225; (with_reducible refine (bits_RotateLeft32.calls a0 (wrap64 (32 - a2)) t116 _ A6.out).mono ?_); rintro e w' ⟨rfl, ⟨nd, rfl⟩⟩; (try first | exact ⟨rfl, _, World.drewN_drewN _ _ _⟩ | exact ⟨rfl, _, Eq.trans (World.drewN_drewN _ _ _) (congrArg (World.drewN _) (Nat.add_assoc _ _ _))⟩))); try go_wp2_with (first | (go_at_call 225; (with_reducible refine (bits_RotateLeft32.calls a0 (wrap64 (32 - a1)) t115 _ A5.out).mono ?_); rintro e w' ⟨rfl, ⟨nd, rfl⟩⟩; (try first | exact ⟨rfl, _, World.drewN_drewN _ _ _⟩ | exact ⟨rfl, _, Eq.trans (World.drewN_drewN _ _ _) (congrArg (World.drewN _) (Nat.add_assoc _ _ _))⟩)) | (go_at_call 225; (with_reducible refine (bits_RotateLeft32.calls a0 (wrap64 (32 - a2)) t116 _ A6.out).mono ?_); rintro e w' ⟨rfl, ⟨nd, rfl⟩⟩; (try first | exact ⟨rfl, _, World.drewN_drewN _ _ _⟩ | exact ⟨rfl, _, Eq.trans (World.drewN_drewN _ _ _) (congrArg (World.drewN _) (Nat.add_assoc _ _ _))⟩))))
    go_ret
    exact ⟨by first | rfl | (simp; done) | (simp only [← hji8] <;> (first | rfl | simp)) | (simp [*]; done), by repeat (first | exact Drawn0.refl _ | apply Drawn0.step)⟩
  · rw [if_neg c7] at H
    exact absurd H (by simp)
end Go.Proofs.YtbedgjjiinhpkaaDoor.P
end
section
namespace Go.Proofs.YtbedgjjiinhpkaaDoor.P
open Go.RowKit Go.Proofs.YtbedgjjiinhpkaaDoorW.PrintWords Go.Proofs.YtbedgjjiinhpkaaDoorW.PrintLast Go.Proofs.YtbedgjjiinhpkaaDoorW.PrintMore
attribute [local go_sem] max2_int min2_int max_two min_two max_three min_three max_four min_four
set_option linter.unusedVariables false
set_option linter.unusedSimpArgs false
def sha_sigma.f (a0 : Int) (a1 : Int) (a2 : Int) (a3 : Int) : Option (Int) := (bits_RotateLeft32.f a0 (wrap64 (32 - a1))).bind fun t117 => ((bits_RotateLeft32.f a0 (wrap64 (32 - a2))).bind fun t118 => ((bits_RotateLeft32.f a0 (wrap64 (32 - a3))).bind fun t119 => (some (Go.bits .xor .u32 (Go.bits .xor .u32 t117 t118) t119))))
set_option maxHeartbeats 8000000 in
set_option maxRecDepth 100000 in
theorem sha_sigma.calls (a0 : Int) (a1 : Int) (a2 : Int) (a3 : Int) (r : Int) (w : World) (h : sha_sigma.f a0 a1 a2 a3 = some r) :
    Calls Tryd.prog 215 #[.int .u32 a0, .int .i64 a1, .int .i64 a2, .int .i64 a3] w fun e w' => e = .returned (.int .u32 r) ∧ Drawn0 w w' := by
  have H : ((bits_RotateLeft32.f a0 (wrap64 (32 - a1))).bind fun t117 => ((bits_RotateLeft32.f a0 (wrap64 (32 - a2))).bind fun t118 => ((bits_RotateLeft32.f a0 (wrap64 (32 - a3))).bind fun t119 => (some (Go.bits .xor .u32 (Go.bits .xor .u32 t117 t118) t119))))) = some r := h
  clear h
  replace H := Option.bind_eq_some_iff.mp H
  obtain ⟨t117, A50, H⟩ := H
  replace H : ((bits_RotateLeft32.f a0 (wrap64 (32 - a2))).bind fun t118 => ((bits_RotateLeft32.f a0 (wrap64 (32 - a3))).bind fun t119 => (some (Go.bits .xor .u32 (Go.bits .xor .u32 t117 t118) t119)))) = some r := H
  have A5 := Aside0.mk A50
  clear A50
  replace H := Option.bind_eq_some_iff.mp H
  obtain ⟨t118, A60, H⟩ := H
  replace H : ((bits_RotateLeft32.f a0 (wrap64 (32 - a3))).bind fun t119 => (some (Go.bits .xor .u32 (Go.bits .xor .u32 t117 t118) t119))) = some r := H
  have A6 := Aside0.mk A60
  clear A60
  replace H := Option.bind_eq_some_iff.mp H
  obtain ⟨t119, A70, H⟩ := H
  replace H : (some (Go.bits .xor .u32 (Go.bits .xor .u32 t117 t118) t119)) = some r := H
  have A7 := Aside0.mk A70
  clear A70
  obtain rfl := Option.some.inj H
  go_enter Tryd.func215, Tryd.ntmps215
  go_wp2_with (first | ((with_reducible refine gate_callee (f := 225) rfl ?_); refine goesL_ (some 12) rfl rfl Tryd.func225 (by kernel_rfl) rfl #[.int .u32 a0, .int .i64 (wrap64 (32 - a1))] rfl (by (try simp only [List.map_toArray, List.map_cons, List.map_nil]); first | done | rfl | (simp only [List.length_drop, List.length_take]; rfl)) ?_; (with_reducible refine (bits_RotateLeft32.calls a0 (wrap64 (32 - a1)) t117 _ A5.out).mono ?_); rintro e w' ⟨rfl, ⟨nd, rfl⟩⟩; refine ⟨_, rfl, ?_⟩) | ((with_reducible refine gate_callee (f := 225) rfl ?_); refine goesL_ (some 16) rfl rfl Tryd.func225 (by kernel_rfl) rfl #[.int .u32 a0, .int .i64 (wrap64 (32 - a2))] rfl (by (try simp only [List.map_toArray, List.map_cons, List.map_nil]); first | done | rfl | (simp only [List.length_drop, List.length_take]; rfl)) ?_; (with_reducible refine (bits_RotateLeft32.calls a0 (wrap64 (32 - a2)) t118 _ A6.out).mono ?_); rintro e w' ⟨rfl, ⟨nd, rfl⟩⟩; refine ⟨_, rfl, ?_⟩) | ((with_reducible refine gate_callee (f := 225) rfl ?_); refine goesL_ (some 21) rfl rfl Tryd.func225 (by kernel_rfl) rfl #[.int .u32 a0, .int .i64 (wrap64 (32 - a3))] rfl (by (try simp only [List.map_toArray, List.map_cons, List.map_nil]); first | done | rfl | (simp only [List.length_drop, List.length_take]; rfl)) ?_; (with_reducible refine (bits_RotateLeft32.calls a0 (wrap64 (32 - a3)) t119 _ A7.out).mono ?_); rintro e w' ⟨rfl, ⟨nd, rfl⟩⟩; refine ⟨_, rfl, ?_⟩))
  go_ret
  exact ⟨by first | rfl | (simp; done) | (simp [*]; done), by repeat (first | exact Drawn0.refl _ | apply Drawn0.step)⟩
end Go.Proofs.YtbedgjjiinhpkaaDoor.P
end
section
set_option linter.unusedVariables false
set_option linter.unusedSimpArgs false
namespace Go.Proofs.YtbedgjjiinhpkaaDoor.P
open Go.RowKit Go.Proofs.YtbedgjjiinhpkaaDoorW.PrintWords Go.Proofs.YtbedgjjiinhpkaaDoorW.PrintLast Go.Proofs.YtbedgjjiinhpkaaDoorW.PrintMore
def words (xs : List Int) : Array Value := (xs.map (Value.int .u32)).toArray
theorem words_get (xs : List Int) (i : Nat) (h : i < xs.length) : (words xs)[i]? = some (.int .u32 (xs.getD i 0)) := by
  unfold words
  rw [List.getElem?_toArray, List.getElem?_map, List.getElem?_eq_getElem h, List.getD_eq_getElem?_getD, List.getElem?_eq_getElem h]
  rfl
theorem words_set (xs : List Int) (i : Nat) (x : Int) : (words xs).setIfInBounds i (.int .u32 x) = words (xs.set i x) := by
  unfold words
  rw [List.map_set]
  simp
def IsWords (w : World) (g t : Nat) (xs : List Int) : Prop := w.heap[g]? = some (.cells (words xs) t (0, 0))
theorem IsWords.cell {w : World} {g t : Nat} {xs : List Int} (h : IsWords w g t xs) (i : Nat) (hi : i < xs.length) : w.cell? ⟨g, i, none⟩ = some (.int .u32 (xs.getD i 0)) :=
  (blk_cell h i).trans (words_get xs i hi)
theorem IsWords.frozen {w : World} {g t : Nat} {xs : List Int} (h : IsWords w g t xs) (i : Nat) : w.frozen? ⟨g, i, none⟩ = false := blk_frozen h i
theorem IsWords.set {w : World} {g t : Nat} {xs : List Int} (h : IsWords w g t xs) (i : Nat) (x : Int) : IsWords (w.setCell ⟨g, i, none⟩ (.int .u32 x)) g t (xs.set i x) := by
  unfold IsWords
  rw [← words_set]
  exact blk_set h i _
theorem IsWords.drewN {w : World} {g t : Nat} {xs : List Int} (h : IsWords w g t xs) (n : Nat) : IsWords (w.drewN n) g t xs := h
def zeros64 : List Int := List.replicate 64 0
def sched2At (xs : List Int) (i : Nat) : Int := ((((sha_gamma.f (xs.getD (i - 2) 0) 17 19 10).getD 0 + xs.getD (i - 7) 0) % 4294967296 + (sha_gamma.f (xs.getD (i - 15) 0) 7 18 3).getD 0) % 4294967296 + xs.getD (i - 16) 0) % 4294967296
def sched2 (xs : List Int) : Nat → List Int
  | 0 => xs
  | k + 1 => (sched2 xs k).set (k + 16) (sched2At (sched2 xs k) (k + 16))
def sched1 (bs : List Int) : Nat → List Int
  | 0 => zeros64
  | k + 1 => (sched1 bs k).set (k / 4) (Go.bits .or .u32 (((sched1 bs k).getD (k / 4) 0) * 256 % 4294967296) (rd bs (k : Int) % 4294967296))
def schedule (bs : List Int) : List Int := sched2 (sched1 bs 64) 48
theorem sched1_length (bs : List Int) (k : Nat) : (sched1 bs k).length = 64 := by
  induction k with
  | zero => simp [sched1, zeros64]
  | succ k ih => simp [sched1, ih]
theorem sched2_length (xs : List Int) (k : Nat) (h : xs.length = 64) : (sched2 xs k).length = 64 := by
  induction k with
  | zero => exact h
  | succ k ih => simp [sched2, ih]
theorem cell_set_ne {w : World} {g i j n : Nat} {u : Value} (h : i ≠ j) (v : Value) (hc : w.cell? ⟨g, i, none⟩ = some u) : ((w.drewN n).setCell ⟨g, j, none⟩ v).cell? ⟨g, i, none⟩ = some u := by
  refine (World.cell?_setCell_other _ _ _ _ (fun e => ?_)).trans ?_
  · simp only [Addr.mk.injEq] at e
    omega
  · exact hc
theorem bits_u64_nonneg (op : BinOp) (x y : Int) : 0 ≤ Go.bits op .u64 x y := by
  unfold Go.bits
  rw [IntKind.wrap_u64]
  omega
theorem rot_some (x n : Int) : ∃ r, bits_RotateLeft32.f x n = some r := by
  unfold bits_RotateLeft32.f
  rw [if_pos (bits_u64_nonneg _ _ _), if_pos (by rw [IntKind.wrap_u64]; omega)]
  exact ⟨_, rfl⟩
theorem gamma_some (x a b c : Int) (hc : 0 ≤ c) : sha_gamma.f x a b c = some ((sha_gamma.f x a b c).getD 0) := by
  unfold sha_gamma.f
  obtain ⟨r1, h1⟩ := rot_some x (wrap64 (32 - a))
  obtain ⟨r2, h2⟩ := rot_some x (wrap64 (32 - b))
  rw [h1, h2]
  simp only [Option.bind_some]
  rw [if_pos hc]
  rfl
theorem sigma_some (x a b c : Int) : sha_sigma.f x a b c = some ((sha_sigma.f x a b c).getD 0) := by
  unfold sha_sigma.f
  obtain ⟨r1, h1⟩ := rot_some x (wrap64 (32 - a))
  obtain ⟨r2, h2⟩ := rot_some x (wrap64 (32 - b))
  obtain ⟨r3, h3⟩ := rot_some x (wrap64 (32 - c))
  rw [h1, h2, h3]
  rfl
set_option maxHeartbeats 1000000 in
set_option maxRecDepth 100000 in
theorem scheduleOf_calls (A0 : Option Addr) (c0 : Nat) (bs : List Int) (w : World) (hr : Kd.C (Kd.int .u8) w A0 bs.length bs) (hc : bs.length ≤ c0) (hl : 64 ≤ bs.length) (hb : bs.length < 9223372036854775807) :
    Calls Tryd.prog 214 #[.slice A0 bs.length c0] w fun e w' => e = .returned (.pointer (some ⟨w.heap.size, 0, none⟩)) ∧ IsWords w' w.heap.size 258 (schedule bs) ∧ Below w.heap.size w w' := by
  have HR := Aside0.mk hr
  have hc64 : 64 ≤ c0 := by omega
  clear hr hc
  go_enter Tryd.func214, Tryd.ntmps214
  go_wp2_with fail
  obtain ⟨g, hg⟩ : ∃ g, g = w.heap.size := ⟨_, rfl⟩
  rw [← hg]
  have HG := Aside0.mk hg
  clear hg
  go_loopw [10] (fun v10 wr => ∃ k : Nat, k ≤ 64 ∧ v10 = .int .i64 k ∧ Aside0 (IsWords wr g 258 (sched1 bs k)) ∧ Aside0 (Below w.heap.size w wr)) (fun v10 _ => 64 - (intOf v10).toNat)
  case atStart => exact ⟨0, by omega, rfl, ⟨by rw [HG.out]; exact heap_alloc_new w _⟩, ⟨below_alloc (Below.refl _ _) _⟩⟩
  case round =>
    obtain ⟨k, hk, rfl, HI, HB⟩ := hrel
    by_cases hlt : k < 64
    · have hd : decide ((k : Int) < 64) = true := by simp; omega
      obtain ⟨ad, rfl, hx0⟩ := Kd.at_int HR.out (k : Int) (by omega) (by omega)
      have hx := (HB.out.cell (World.block_lt_of_cell? w _ hx0)).trans hx0
      clear hx0
      rw [Int.toNat_natCast] at hx
      have hk4 : k / 4 < 64 := by omega
      have hc := HI.out.cell (k / 4) (by rw [sched1_length]; omega)
      have hf := HI.out.frozen (k / 4)
      go_wp2_with fail
      go_roundw
      case rel =>
        refine ⟨k + 1, by omega, by go_num, ⟨?_⟩, ⟨HB.out.setCell (by show w.heap.size ≤ g; rw [HG.out]; omega) _⟩⟩
        have := HI.out.set (k / 4) (Go.bits .or .u32 (((sched1 bs k).getD (k / 4) 0) * 256 % 4294967296) (rd bs (k : Int) % 4294967296))
        rw [List.getD_eq_getElem?_getD] at this
        simpa only [sched1, List.getD_eq_getElem?_getD] using this
      case measure => simp [intOf]; omega
    · have hd : decide ((k : Int) < 64) = false := by simp; omega
      have hk64 : k = 64 := by omega
      rw [hk64] at HI
      clear hk64 hk hlt
      go_wp2_with fail
      obtain ⟨xs0, hxs0⟩ : ∃ xs, xs = sched1 bs 64 := ⟨_, rfl⟩
      have hl0 : xs0.length = 64 := by rw [hxs0]; exact sched1_length _ _
      rw [← hxs0] at HI
      have HL0 := Aside0.mk hl0
      have HX0 := Aside0.mk hxs0
      clear hl0 hxs0 hd
      go_loopw [6] (fun v6 wr => ∃ k : Nat, k ≤ 48 ∧ v6 = .int .i64 (16 + k : Nat) ∧ Aside0 (IsWords wr g 258 (sched2 xs0 k)) ∧ Aside0 (Below w.heap.size w wr)) (fun v6 _ => 64 - (intOf v6).toNat)
      case atStart => exact ⟨0, by omega, rfl, HI, HB⟩
      case round =>
        obtain ⟨k, hk, rfl, HI, HB⟩ := hrel
        by_cases hlt : k < 48
        · obtain ⟨j, hj⟩ : ∃ j, j = 16 + k := ⟨_, rfl⟩
          rw [← hj]
          obtain ⟨xs, hxs⟩ : ∃ xs, xs = sched2 xs0 k := ⟨_, rfl⟩
          rw [← hxs] at HI
          have hxl : xs.length = 64 := by rw [hxs]; exact sched2_length xs0 k HL0.out
          have HXS := Aside0.mk hxs
          have HJ := Aside0.mk hj
          have j0 : 16 ≤ j := by omega
          have j1 : j < 64 := by omega
          obtain ⟨x2, hx2⟩ : ∃ x, x = xs.getD (j - 2) 0 := ⟨_, rfl⟩
          obtain ⟨x7, hx7⟩ : ∃ x, x = xs.getD (j - 7) 0 := ⟨_, rfl⟩
          obtain ⟨x15, hx15⟩ : ∃ x, x = xs.getD (j - 15) 0 := ⟨_, rfl⟩
          obtain ⟨x16, hx16⟩ : ∃ x, x = xs.getD (j - 16) 0 := ⟨_, rfl⟩
          obtain ⟨j2, hj2⟩ : ∃ x, x = j - 2 := ⟨_, rfl⟩
          have c2 := HI.out.cell (j - 2) (by omega)
          rw [← hj2] at c2 hx2
          have HJ2 := Aside0.mk hj2
          clear hj2
          obtain ⟨j7, hj7⟩ : ∃ x, x = j - 7 := ⟨_, rfl⟩
          have c7 := HI.out.cell (j - 7) (by omega)
          rw [← hj7] at c7 hx7
          have HJ7 := Aside0.mk hj7
          clear hj7
          obtain ⟨j15, hj15⟩ : ∃ x, x = j - 15 := ⟨_, rfl⟩
          have c15 := HI.out.cell (j - 15) (by omega)
          rw [← hj15] at c15 hx15
          have HJ15 := Aside0.mk hj15
          clear hj15
          obtain ⟨j16, hj16⟩ : ∃ x, x = j - 16 := ⟨_, rfl⟩
          have c16 := HI.out.cell (j - 16) (by omega)
          rw [← hj16] at c16 hx16
          have HJ16 := Aside0.mk hj16
          clear hj16
          rw [← hx2] at c2
          rw [← hx7] at c7
          rw [← hx15] at c15
          rw [← hx16] at c16
          have hf := HI.out.frozen j
          have hcj := HI.out.cell j (by omega)
          have HX := Aside0.mk (And.intro hx2 (And.intro hx7 (And.intro hx15 hx16)))
          have G1 := Aside0.mk (gamma_some x2 17 19 10 (by omega))
          have G2 := Aside0.mk (gamma_some x15 7 18 3 (by omega))
          obtain ⟨y1, hy1⟩ : ∃ y, y = (sha_gamma.f x2 17 19 10).getD 0 := ⟨_, rfl⟩
          obtain ⟨y2, hy2⟩ : ∃ y, y = (sha_gamma.f x15 7 18 3).getD 0 := ⟨_, rfl⟩
          rw [← hy1] at G1
          rw [← hy2] at G2
          have HY := Aside0.mk (And.intro hy1 hy2)
          have HXL := Aside0.mk hxl
          have HK := Aside0.mk hlt
          clear hj hxs hx2 hx7 hx15 hx16 hy1 hy2 hxl hlt
          have hd : decide ((j : Int) < 64) = true := by simp; omega
          have pj : 0 ≤ (j : Int) := by omega
          have qj : (j : Int) < 64 := by omega
          go_wp2_with fail
          have w2 : IntKind.i64.wrap (j2 : Int) = (j2 : Int) := by have := HJ2.out; exact IntWalk.i64_in _ ⟨by omega, by omega⟩
          have q2 : (j2 : Int) < 64 := by have := HJ2.out; omega
          have p2 : 0 ≤ (j2 : Int) := by omega
          have e2 : (j : Int) - 2 = (j2 : Int) := by have := HJ2.out; omega
          have w7 : IntKind.i64.wrap (j7 : Int) = (j7 : Int) := by have := HJ7.out; exact IntWalk.i64_in _ ⟨by omega, by omega⟩
          have q7 : (j7 : Int) < 64 := by have := HJ7.out; omega
          have p7 : 0 ≤ (j7 : Int) := by omega
          have e7 : (j : Int) - 7 = (j7 : Int) := by have := HJ7.out; omega
          have w15 : IntKind.i64.wrap (j15 : Int) = (j15 : Int) := by have := HJ15.out; exact IntWalk.i64_in _ ⟨by omega, by omega⟩
          have q15 : (j15 : Int) < 64 := by have := HJ15.out; omega
          have p15 : 0 ≤ (j15 : Int) := by omega
          have e15 : (j : Int) - 15 = (j15 : Int) := by have := HJ15.out; omega
          have w16 : IntKind.i64.wrap (j16 : Int) = (j16 : Int) := by have := HJ16.out; exact IntWalk.i64_in _ ⟨by omega, by omega⟩
          have q16 : (j16 : Int) < 64 := by have := HJ16.out; omega
          have p16 : 0 ≤ (j16 : Int) := by omega
          have e16 : (j : Int) - 16 = (j16 : Int) := by have := HJ16.out; omega
          go_region_held3 (fun w' => w'.cell? ⟨g, j2, none⟩ = some (.int .u32 x2) ∧ w'.cell? ⟨g, j7, none⟩ = some (.int .u32 x7) ∧ w'.cell? ⟨g, j15, none⟩ = some (.int .u32 x15) ∧ w'.cell? ⟨g, j16, none⟩ = some (.int .u32 x16)) (first | go_keep | exact ⟨cell_set_ne (by have := HJ2.out; omega) _ c2, cell_set_ne (by have := HJ7.out; omega) _ c7, cell_set_ne (by have := HJ15.out; omega) _ c15, cell_set_ne (by have := HJ16.out; omega) _ c16⟩) (first | (go_at_call 224; ((with_reducible refine (sha_gamma.calls x2 17 19 10 y1 _ G1.out).mono ?_); rintro e w' ⟨rfl, ⟨m1, rfl⟩⟩)) | (go_at_call 224; ((with_reducible refine (sha_gamma.calls x15 7 18 3 y2 _ G2.out).mono ?_); rintro e w' ⟨rfl, ⟨m2, rfl⟩⟩)))
          go_wp2_with fail
          go_roundw
          case rel =>
            have hX := HX.out
            have hY := HY.out
            have hv : (((y1 + x7) % 4294967296 + y2) % 4294967296 + x16) % 4294967296 = sched2At (sched2 xs0 k) (k + 16) := by
              unfold sched2At
              rw [← HXS.out, show k + 16 = j from by rw [HJ.out]; omega, ← HJ2.out, ← HJ7.out, ← HJ15.out, ← HJ16.out, ← hX.1, ← hX.2.1, ← hX.2.2.1, ← hX.2.2.2, ← hY.1, ← hY.2]
            refine ⟨k + 1, by have := HK.out; omega, by rw [HJ.out]; go_num, ⟨?_⟩, ⟨(pw_below_drewN HB.out _).setCell (by show w.heap.size ≤ g; rw [HG.out]; omega) _⟩⟩
            rw [hv]
            have h1 := (HI.out.drewN (1 + m1 + m2)).set j (sched2At (sched2 xs0 k) (k + 16))
            have h2 : sched2 xs0 (k + 1) = xs.set j (sched2At (sched2 xs0 k) (k + 16)) := by
              simp only [sched2]
              rw [← HXS.out, show k + 16 = j from by rw [HJ.out]; omega]
            rw [h2]
            exact h1
          case measure => simp [intOf]; have := HJ.out; omega
        · have hd : decide (((16 + k : Nat) : Int) < 64) = false := by simp; omega
          obtain rfl : k = 48 := by omega
          go_wp2_with fail
          go_ret
          rw [← HG.out]
          refine ⟨rfl, ?_, by rw [HG.out]; exact HB.out⟩
          unfold schedule
          rw [← HX0.out]
          exact HI.out
end Go.Proofs.YtbedgjjiinhpkaaDoor.P
end
