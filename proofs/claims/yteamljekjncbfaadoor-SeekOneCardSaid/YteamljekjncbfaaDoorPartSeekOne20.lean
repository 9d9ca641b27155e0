/- Lemmas of this claim, part 20. -/
import Derived.Test.YteamljekjncbfaaDoorPartSeekOne19
import Derived.Shelf.Abstract
import Derived.Test.YteamljekjncbfaaDoorPartSeekOne2
import Derived.Test.YteamljekjncbfaaDoorPartSeekOne17
import Derived.Test.YteamljekjncbfaaDoorPartSeekOne15
import Derived.Outline
section
set_option linter.unusedVariables false
set_option linter.unusedSimpArgs false
namespace Go.Proofs.YteamljekjncbfaaDoor.P
open Go.RowKit Go.Proofs.YteamljekjncbfaaDoorW.PrintWords Go.Proofs.YteamljekjncbfaaDoorW.PrintLast Go.Proofs.YteamljekjncbfaaDoorW.PrintMore
set_option maxHeartbeats 1600000 in
set_option maxRecDepth 100000 in
theorem run_none (F : Nat) (caps : Array Value) (I : World → List Int → Prop) (A0 : Option Addr) (c0 : Nat) (ts : List Int) (t : Int) (w0 w : World)
    (hn : ts.length = 0) (hI : I w []) (hB : Below w0.heap.size w0 w) :
    Calls Tryd.prog 104 #[.slice A0 ts.length c0, .int .i64 t, .func (.func F) #[] caps] w fun e w' => e = .returned (.int .i64 (lookRun ts t).2) ∧ I w' (lookRun ts t).1 ∧ Below w0.heap.size w0 w' := by
  have H0 : Hid (lookRun ts t = ([], -1)) := by unfold lookRun; rw [if_pos hn]; rfl
  have HI := Aside0.mk hI
  have HB := Aside0.mk hB
  clear hI hB
  have n0 : ((ts.length : Int) == 0) = true := by simp; exact List.eq_nil_of_length_eq_zero hn
  clear hn
  go_enter Tryd.func104, Tryd.ntmps104
  go_wp2_with fail
  go_ret
  refine ⟨?_, ?_, HB.out⟩
  · rw [H0.out]; rfl
  · rw [H0.out]; exact HI.out
set_option maxHeartbeats 1600000 in
set_option maxRecDepth 100000 in
theorem run_early (F : Nat) (caps : Array Value) (I : World → List Int → Prop) (A0 : Option Addr) (c0 : Nat) (ts : List Int) (t : Int) (w0 w : World) (hL : Look w0 F caps I)
    (hr : Kd.C (Kd.int .i64) w0 A0 ts.length ts) (hn : 0 < ts.length) (ht : t < rd ts 0) (hI : I w []) (hB : Below w0.heap.size w0 w) :
    Calls Tryd.prog 104 #[.slice A0 ts.length c0, .int .i64 t, .func (.func F) #[] caps] w fun e w' => e = .returned (.int .i64 (lookRun ts t).2) ∧ I w' (lookRun ts t).1 ∧ Below w0.heap.size w0 w' := by
  have H0 : Hid (lookRun ts t = ([0], -1)) := by unfold lookRun; rw [if_neg (by omega), if_pos ht]; rfl
  have HR := Aside0.mk hr
  have HL := Aside0.mk hL
  have HI := Aside0.mk hI
  have HB := Aside0.mk hB
  clear hr hL hI hB
  have n0 : ((ts.length : Int) == 0) = false := by simp; intro h; simp [h] at hn
  obtain ⟨ad, rfl, hx0⟩ := Kd.at_int HR.out 0 (by omega) (by omega)
  have hp0 : (0 : Int) < (ts.length : Int) := by omega
  have ht' : decide (t < rd ts 0) = true := by simp; omega
  have hE := HL.out.enter
  go_enter Tryd.func104, Tryd.ntmps104
  go_wp2_with fail
  refine (HL.out.call [] 0 _ HI.out HB.out (by simp)).mono ?_
  rintro e1 w1 ⟨rfl, hI1, hB1, hK1⟩
  have HI1 := Aside0.mk hI1
  have HB1 := Aside0.mk hB1
  clear hI1 hB1 hK1 HI HB
  have hx1 := (HB1.out.cell (World.block_lt_of_cell? w0 _ hx0)).trans hx0
  clear hx0
  rw [show ad.add (Int.toNat 0) = ad from by simp [Addr.add]] at hx1
  go_wp2_with fail
  go_ret
  refine ⟨?_, ?_, HB1.out⟩
  · rw [H0.out]; rfl
  · rw [H0.out]; exact HI1.out
theorem run_any (F : Nat) (caps : Array Value) (I : World → List Int → Prop) (A0 : Option Addr) (c0 : Nat) (ts : List Int) (t : Int) (w0 w : World) (hL : Look w0 F caps I)
    (hr : Kd.C (Kd.int .i64) w0 A0 ts.length ts) (hc : ts.length ≤ c0) (hb : ts.length < 1000000) (hI : I w []) (hB : Below w0.heap.size w0 w) :
    Calls Tryd.prog 104 #[.slice A0 ts.length c0, .int .i64 t, .func (.func F) #[] caps] w fun e w' => e = .returned (.int .i64 (lookRun ts t).2) ∧ I w' (lookRun ts t).1 ∧ Below w0.heap.size w0 w' := by
  by_cases hn : ts.length = 0
  · exact run_none F caps I A0 c0 ts t w0 w hn hI hB
  · by_cases ht : t < rd ts 0
    · exact run_early F caps I A0 c0 ts t w0 w hL hr (by omega) ht hI hB
    · exact run_some F caps I A0 c0 ts t w0 w hL hr hc hb (by omega) ht hI hB
theorem enters_body {f : FuncId} {fn : Func} {c : Code} (hf : Tryd.prog.funcs[f]? = some fn) (hname : (fn.name == "runtime.NumGoroutine") = false) (hb : fn.body = some c) (args : Array Value) (w : World) : (callFunc f args).run Tryd.prog w = .ok (.enter f args) w :=
  enters_of hf hname hb args w
theorem probesLook (w0 : World) (B : Nat) : Look w0 105 #[.pointer (some ⟨B, 0, none⟩)] (fun W l => Cap w0 W B l) where
  enter := enters_body Tryd.func105 (by kernel_rfl) rfl
  call := fun l e W hI hB hl => probes1_calls B l e w0 W hI hB hl
  alloc := by
    rintro W l cs ⟨hge, v, hb, hR⟩
    exact ⟨hge, v, blk_alloc hb _, Kd.R_alloc hR _⟩
  keep := by
    rintro W W' l g cs ⟨hge, v, hb, hR⟩ hg hk
    have hne : B ≠ g := by
      rintro rfl
      rw [hb] at hg
      injection hg with hg
      injection hg with _ hg
      exact absurd hg (by decide)
    refine ⟨hge, v, (hk.2 B (blk_lt hb) hne (by simp)).trans hb, ?_⟩
    exact Kd.R_mono (Kd.R_keep (Kd.R_types hR hg (by decide)) hk (fun _ h => h.2)) (fun _ _ => trivial)
set_option maxHeartbeats 400000 in
theorem find1_calls (e : Int) (w : World) :
    Calls Tryd.prog 106 #[.int .i64 e] w fun e' w' => e' = .returned (.tuple #[]) ∧ w = w' := by
  go_enter Tryd.func106, Tryd.ntmps106
  go_wp2
  go_end0
  exact ⟨rfl, rfl⟩
theorem findLook (w0 : World) : Look w0 106 #[] (fun _ _ => True) where
  enter := enters_body Tryd.func106 (by kernel_rfl) rfl
  call := fun l e W hI hB hl => (find1_calls e W).mono (by rintro e' w' ⟨rfl, rfl⟩; exact ⟨rfl, trivial, hB, KeepTy.refl _ _⟩)
  alloc := fun _ _ _ _ => trivial
  keep := fun _ _ _ _ _ _ _ _ => trivial
def seek_Probes.f (l0 : List Int) (a1 : Int) : Option (List Int) := if l0.length < 1000000 then some (lookRun l0 a1).1 else none
def seek_Find.f (l0 : List Int) (a1 : Int) : Option Int := if l0.length < 1000000 then some (lookRun l0 a1).2 else none
set_option maxHeartbeats 400000 in
set_option maxRecDepth 100000 in
theorem seek_Find.calls (A0 : Option Addr) (c0 : Nat) (l0 : List Int) (a1 : Int) (r : Int) (w : World) (hr0 : Kd.C (Kd.int .i64) w A0 l0.length l0) (hc0 : l0.length ≤ c0) (h : seek_Find.f l0 a1 = some r) :
    Calls Tryd.prog 82 #[.slice A0 l0.length c0, .int .i64 a1] w fun e w' => e = .returned (.int .i64 r) ∧ Below w.heap.size w w' := by
  unfold seek_Find.f at h
  split at h
  case isFalse => cases h
  case isTrue hb =>
    obtain rfl := Option.some.inj h
    clear h
    go_enter Tryd.func82, Tryd.ntmps82
    go_wp2_with fail
    refine (run_any 106 #[] (fun _ _ => True) A0 c0 l0 a1 w w (findLook w) hr0 hc0 hb trivial (Below.refl _ _)).mono ?_
    rintro e1 w1 ⟨rfl, _, hB⟩
    go_wp2_with fail
    go_ret
    exact ⟨rfl, hB⟩
set_option maxHeartbeats 400000 in
set_option maxRecDepth 100000 in
theorem seek_Probes.calls (A0 : Option Addr) (c0 : Nat) (l0 : List Int) (a1 : Int) (r : List Int) (w : World) (hr0 : Kd.C (Kd.int .i64) w A0 l0.length l0) (hc0 : l0.length ≤ c0) (h : seek_Probes.f l0 a1 = some r) :
    Calls Tryd.prog 81 #[.slice A0 l0.length c0, .int .i64 a1] w fun e w' => ∃ v0_ : Value, e = .returned (v0_) ∧ Kd.R (Kd.int .i64) 3 w' w.heap.size (fun _ => True) v0_ r ∧ Below w.heap.size w w' := by
  unfold seek_Probes.f at h
  split at h
  case isFalse => cases h
  case isTrue hb =>
    obtain rfl := Option.some.inj h
    clear h
    have hmf : ∀ (fn : Fn) (first cap : Array Value) (w : World), (Instr.makeFunc fn first cap).run Tryd.prog w = .ok (.func fn first cap) w := fun _ _ _ _ => rfl
    have HR := Aside0.mk hr0
    clear hr0
    go_enter Tryd.func81, Tryd.ntmps81
    go_wp2_with fail
    refine (run_any 105 #[.pointer (some ⟨w.heap.size, 0, none⟩)] (fun W l => Cap w W w.heap.size l) A0 c0 l0 a1 w _ (probesLook w w.heap.size) HR.out hc0 hb ⟨Nat.le_refl _, _, heap_alloc_new w _, Kd.R_nil _ _ _ _ _⟩ (below_alloc (Below.refl _ _) _)).mono ?_
    rintro e1 w1 ⟨rfl, ⟨_, v, hb1, hR1⟩, hB⟩
    have hc1 := (blk_cell hb1 0).trans rfl
    have HR1 := Aside0.mk hR1
    clear hR1 hb1
    go_wp2_with fail
    go_ret
    exact ⟨_, rfl, HR1.out, hB⟩
end Go.Proofs.YteamljekjncbfaaDoor.P
end
section
namespace Go.Proofs.YteamljekjncbfaaDoor.P
open Go.RowKit Go.Proofs.YteamljekjncbfaaDoorW.PrintWords Go.Proofs.YteamljekjncbfaaDoorW.PrintLast Go.Proofs.YteamljekjncbfaaDoorW.PrintMore
attribute [local go_sem] max2_int min2_int max_two min_two max_three min_three max_four min_four
set_option linter.unusedVariables false
set_option linter.unusedSimpArgs false
def annalslaw20_awake.f (k : Nat)  : Option (Bool) := (seek_Probes.f (([0, 5, 5, 9, 9] : List Int)) 4).bind fun t446 => ((slices_Equal_int_int.f k t446 (([0, 2, 1] : List Int))).bind fun t452 => (if t452 = true then ((seek_Find.f (([0, 5, 5, 9, 9] : List Int)) 5).bind fun t456 => (some (t456 == 2))) else (some false)))
set_option maxHeartbeats 8000000 in
set_option maxRecDepth 100000 in
theorem annalslaw20_awake.calls (k : Nat)  (r : Bool) (w : World) (h : annalslaw20_awake.f k  = some r) :
    Calls Tryd.prog 48 #[] w fun e w' => e = .returned (.bool r) ∧ Below w.heap.size w w' := by
  have HB := Aside0.mk (Below.refl w.heap.size w)
  have H : ((seek_Probes.f (([0, 5, 5, 9, 9] : List Int)) 4).bind fun t446 => ((slices_Equal_int_int.f k t446 (([0, 2, 1] : List Int))).bind fun t452 => (if t452 = true then ((seek_Find.f (([0, 5, 5, 9, 9] : List Int)) 5).bind fun t456 => (some (t456 == 2))) else (some false)))) = some r := h
  clear h
  obtain ⟨y443, hy443⟩ : ∃ y_ : List Int, y_ = (([0, 5, 5, 9, 9] : List Int)) := ⟨_, rfl⟩
  replace H : ((seek_Probes.f y443 4).bind fun t446 => ((slices_Equal_int_int.f k t446 (([0, 2, 1] : List Int))).bind fun t452 => (if t452 = true then ((seek_Find.f (([0, 5, 5, 9, 9] : List Int)) 5).bind fun t456 => (some (t456 == 2))) else (some false)))) = some r := by first | (rw [hy443]; with_reducible exact H) | (have H2_ := (Option.bind_some _ _).symm.trans H; rw [hy443]; with_reducible exact H2_) | (have H2_ := (Option.bind_some _ _).symm.trans H; with_reducible exact H2_) | with_reducible exact H | (rw [hy443]; exact H) | exact H
  have Ny443 := Aside0.mk hy443
  clear hy443
  replace H := Option.bind_eq_some_iff.mp H
  obtain ⟨t446, A10, H⟩ := H
  replace H : ((slices_Equal_int_int.f k t446 (([0, 2, 1] : List Int))).bind fun t452 => (if t452 = true then ((seek_Find.f (([0, 5, 5, 9, 9] : List Int)) 5).bind fun t456 => (some (t456 == 2))) else (some false))) = some r := H
  have A1 := Aside0.mk A10
  clear A10
  obtain ⟨y449, hy449⟩ : ∃ y_ : List Int, y_ = (([0, 2, 1] : List Int)) := ⟨_, rfl⟩
  replace H : ((slices_Equal_int_int.f k t446 y449).bind fun t452 => (if t452 = true then ((seek_Find.f (([0, 5, 5, 9, 9] : List Int)) 5).bind fun t456 => (some (t456 == 2))) else (some false))) = some r := by first | (rw [hy449]; with_reducible exact H) | (have H2_ := (Option.bind_some _ _).symm.trans H; rw [hy449]; with_reducible exact H2_) | (have H2_ := (Option.bind_some _ _).symm.trans H; with_reducible exact H2_) | with_reducible exact H | (rw [hy449]; exact H) | exact H
  have Ny449 := Aside0.mk hy449
  clear hy449
  replace H := Option.bind_eq_some_iff.mp H
  obtain ⟨t452, A20, H⟩ := H
  replace H : (if t452 = true then ((seek_Find.f (([0, 5, 5, 9, 9] : List Int)) 5).bind fun t456 => (some (t456 == 2))) else (some false)) = some r := H
  have A2 := Aside0.mk A20
  clear A20
  by_cases c3 : t452 = true
  · subst c3
    have H1 : ((seek_Find.f (([0, 5, 5, 9, 9] : List Int)) 5).bind fun t456 => (some (t456 == 2))) = some r := by rw [if_pos rfl] at H; exact H
    clear H
    have H := H1
    clear H1
    obtain ⟨y453, hy453⟩ : ∃ y_ : List Int, y_ = (([0, 5, 5, 9, 9] : List Int)) := ⟨_, rfl⟩
    replace H : ((seek_Find.f y453 5).bind fun t456 => (some (t456 == 2))) = some r := by first | (rw [hy453]; with_reducible exact H) | (have H2_ := (Option.bind_some _ _).symm.trans H; rw [hy453]; with_reducible exact H2_) | (have H2_ := (Option.bind_some _ _).symm.trans H; with_reducible exact H2_) | with_reducible exact H | (rw [hy453]; exact H) | exact H
    have Ny453 := Aside0.mk hy453
    clear hy453
    replace H := Option.bind_eq_some_iff.mp H
    obtain ⟨t456, A40, H⟩ := H
    replace H : (some (t456 == 2)) = some r := H
    have A4 := Aside0.mk A40
    clear A40
    obtain rfl := Option.some.inj H
    go_enter Tryd.func48, Tryd.ntmps48
    go_wp2_with (first | ((with_reducible refine gate_dst (N := 1) rfl ?_); (try (refine gate_guard (by rfl) ?_; dsimp only)); refine Kd.R_lit (Kd.int .i64) _ 3 ?hg (N := 1) ?hd (xs := ([0, 5, 5, 9, 9] : List Int)) (inner := [.int .i64 0, .int .i64 5, .int .i64 5, .int .i64 9, .int .i64 9]) (ok := fun _ => True) (okp := fun _ => True) ?hr ?hp (fun _ hk => hk) trivial (Below.refl _ _) (Nat.le_refl _) (by simp) ?_; (case hd => rfl); (case hg => rfl); (case hr => first | (go_simp; done) | (go_simp; rfl)); (case hp => exact (Reps.one (show Kd.M (Kd.int .i64) _ _ _ 0 [.int .i64 0] from rfl) (Reps.one (show Kd.M (Kd.int .i64) _ _ _ 5 [.int .i64 5] from rfl) (Reps.one (show Kd.M (Kd.int .i64) _ _ _ 5 [.int .i64 5] from rfl) (Reps.one (show Kd.M (Kd.int .i64) _ _ _ 9 [.int .i64 9] from rfl) (Reps.one (show Kd.M (Kd.int .i64) _ _ _ 9 [.int .i64 9] from rfl) (Reps.none _ _))))))); intro v444 w5 ho6 hb hg_ hnew_; clear hg_ hnew_; (first | rw [← Ny443.out] at ho6 | (simp only [Int.reduceToNat] at ho6; rw [← Ny443.out] at ho6)); have n0_ := Aside0.mk (Kd.R_lower ho6 (below_size (by repeat (first | (with_reducible first | exact HB.out | apply below_alloc | apply pw_below_drewN | apply below_drew1) | exact HB.out)))); have n1_ := Aside0.mk (below_step (by repeat (first | (with_reducible first | exact HB.out | apply below_alloc | apply pw_below_drewN | apply below_drew1) | exact HB.out)) hb); clear HB; have HO445 := n0_; have HB := n1_; clear n0_ n1_; clear hb ho6; obtain ⟨Ao7, co7, eo7⟩ := Kd.R_slice HO445.out; subst eo7) | ((with_reducible refine gate_callee (f := 81) rfl ?_); refine goesL_ (some 2) rfl rfl Tryd.func81 (by kernel_rfl) rfl #[.slice Ao7 y443.length co7, .int .i64 4] rfl (by (try simp only [List.map_toArray, List.map_cons, List.map_nil]); first | done | rfl | (simp only [List.length_drop, List.length_take]; rfl)) ?_; (with_reducible refine (seek_Probes.calls _ _ y443 4 t446 _ ?side1 ?side2 A1.out).mono ?_); (case side1 => repeat (first | exact (Kd.R_reads' HO445.out).2.2 | (with_reducible refine Kd.C_alloc ?_ _) | (with_reducible refine Kd.C_drewN ?_ _) | (with_reducible refine Kd.C_drew ?_))); (case side2 => exact (Kd.R_reads' HO445.out).2.1); rintro e w8 ⟨v447, rfl, ho0, hb⟩; refine ⟨_, rfl, ?_⟩; have n0_ := Aside0.mk (Kd.R_elder' (by (with_reducible repeat (first | apply Kd.R_alloc | apply Kd.R_drewN | apply Kd.R_drew)); exact HO445.out) (Kd.R_base ho0) hb); have n1_ := Aside0.mk (Kd.R_lower (Kd.R_new' ho0 (Kd.R_lt (by (with_reducible repeat (first | apply Kd.R_alloc | apply Kd.R_drewN | apply Kd.R_drew)); exact HO445.out))) (below_size (by repeat (first | (with_reducible first | exact HB.out | apply below_alloc | apply pw_below_drewN | apply below_drew1) | exact HB.out)))); have n2_ := Aside0.mk (below_step (by repeat (first | (with_reducible first | exact HB.out | apply below_alloc | apply pw_below_drewN | apply below_drew1) | exact HB.out)) hb); clear HO445; clear HB; have HO445 := n0_; have HO448 := n1_; have HB := n2_; clear n0_ n1_ n2_; (try clear hb); (try clear hb2); (try clear hk); (try clear hi); (try clear ho0)) | ((with_reducible refine gate_dst (N := 3) rfl ?_); (try (refine gate_guard (by rfl) ?_; dsimp only)); refine Kd.R_lit (Kd.int .i64) _ 3 ?hg (N := 3) ?hd (xs := ([0, 2, 1] : List Int)) (inner := [.int .i64 0, .int .i64 2, .int .i64 1]) (ok := fun _ => True) (okp := fun _ => True) ?hr ?hp (fun _ hk => hk) trivial (Below.refl _ _) (Nat.le_refl _) (by simp) ?_; (case hd => rfl); (case hg => rfl); (case hr => first | (go_simp; done) | (go_simp; rfl)); (case hp => exact (Reps.one (show Kd.M (Kd.int .i64) _ _ _ 0 [.int .i64 0] from rfl) (Reps.one (show Kd.M (Kd.int .i64) _ _ _ 2 [.int .i64 2] from rfl) (Reps.one (show Kd.M (Kd.int .i64) _ _ _ 1 [.int .i64 1] from rfl) (Reps.none _ _))))); intro v450 w9 ho10 hb hg_ hnew_; clear hg_ hnew_; (first | rw [← Ny449.out] at ho10 | (simp only [Int.reduceToNat] at ho10; rw [← Ny449.out] at ho10)); have n0_ := Aside0.mk (Kd.R_elder' (by (with_reducible repeat (first | apply Kd.R_alloc | apply Kd.R_drewN | apply Kd.R_drew)); exact HO445.out) (Kd.R_base ho10) hb); have n1_ := Aside0.mk (Kd.R_elder' (by (with_reducible repeat (first | apply Kd.R_alloc | apply Kd.R_drewN | apply Kd.R_drew)); exact HO448.out) (Kd.R_base ho10) hb); have n2_ := Aside0.mk (Kd.R_lower (Kd.R_new' (Kd.R_new' ho10 (Kd.R_lt (by (with_reducible repeat (first | apply Kd.R_alloc | apply Kd.R_drewN | apply Kd.R_drew)); exact HO445.out))) (Kd.R_lt (by (with_reducible repeat (first | apply Kd.R_alloc | apply Kd.R_drewN | apply Kd.R_drew)); exact HO448.out))) (below_size (by repeat (first | (with_reducible first | exact HB.out | apply below_alloc | apply pw_below_drewN | apply below_drew1) | exact HB.out)))); have n3_ := Aside0.mk (below_step (by repeat (first | (with_reducible first | exact HB.out | apply below_alloc | apply pw_below_drewN | apply below_drew1) | exact HB.out)) hb); clear HO445; clear HO448; clear HB; have HO445 := n0_; have HO448 := n1_; have HO451 := n2_; have HB := n3_; clear n0_ n1_ n2_ n3_; clear hb ho10; obtain ⟨Ao11, co11, eo11⟩ := Kd.R_slice HO448.out; subst eo11; obtain ⟨Ao12, co12, eo12⟩ := Kd.R_slice HO451.out; subst eo12) | ((with_reducible refine gate_callee (f := 13) rfl ?_); refine goesL_ (some 4) rfl rfl Tryd.func13 (by kernel_rfl) rfl #[.slice Ao11 t446.length co11, .slice Ao12 y449.length co12] rfl (by (try simp only [List.map_toArray, List.map_cons, List.map_nil]); first | done | rfl | (simp only [List.length_drop, List.length_take]; rfl)) ?_; (with_reducible refine (slices_Equal_int_int.calls k _ _ t446 _ _ y449 true _ ?side1 ?side2 ?side3 ?side4 A2.out).mono ?_); (case side1 => repeat (first | exact (Kd.R_reads' HO448.out).2.2 | (with_reducible refine Kd.C_alloc ?_ _) | (with_reducible refine Kd.C_drewN ?_ _) | (with_reducible refine Kd.C_drew ?_))); (case side2 => exact (Kd.R_reads' HO448.out).2.1); (case side3 => repeat (first | exact (Kd.R_reads' HO451.out).2.2 | (with_reducible refine Kd.C_alloc ?_ _) | (with_reducible refine Kd.C_drewN ?_ _) | (with_reducible refine Kd.C_drew ?_))); (case side4 => exact (Kd.R_reads' HO451.out).2.1); rintro e w' ⟨rfl, ⟨nd, rfl⟩⟩; refine ⟨_, rfl, ?_⟩) | ((with_reducible refine gate_dst (N := 6) rfl ?_); (try (refine gate_guard (by rfl) ?_; dsimp only)); refine Kd.R_lit (Kd.int .i64) _ 3 ?hg (N := 6) ?hd (xs := ([0, 5, 5, 9, 9] : List Int)) (inner := [.int .i64 0, .int .i64 5, .int .i64 5, .int .i64 9, .int .i64 9]) (ok := fun _ => True) (okp := fun _ => True) ?hr ?hp (fun _ hk => hk) trivial (Below.refl _ _) (Nat.le_refl _) (by simp) ?_; (case hd => rfl); (case hg => rfl); (case hr => first | (go_simp; done) | (go_simp; rfl)); (case hp => exact (Reps.one (show Kd.M (Kd.int .i64) _ _ _ 0 [.int .i64 0] from rfl) (Reps.one (show Kd.M (Kd.int .i64) _ _ _ 5 [.int .i64 5] from rfl) (Reps.one (show Kd.M (Kd.int .i64) _ _ _ 5 [.int .i64 5] from rfl) (Reps.one (show Kd.M (Kd.int .i64) _ _ _ 9 [.int .i64 9] from rfl) (Reps.one (show Kd.M (Kd.int .i64) _ _ _ 9 [.int .i64 9] from rfl) (Reps.none _ _))))))); intro v454 w13 ho14 hb hg_ hnew_; clear hg_ hnew_; (first | rw [← Ny453.out] at ho14 | (simp only [Int.reduceToNat] at ho14; rw [← Ny453.out] at ho14)); have n0_ := Aside0.mk (Kd.R_elder' (by (with_reducible repeat (first | apply Kd.R_alloc | apply Kd.R_drewN | apply Kd.R_drew)); exact HO445.out) (Kd.R_base ho14) hb); have n1_ := Aside0.mk (Kd.R_elder' (by (with_reducible repeat (first | apply Kd.R_alloc | apply Kd.R_drewN | apply Kd.R_drew)); exact HO448.out) (Kd.R_base ho14) hb); have n2_ := Aside0.mk (Kd.R_elder' (by (with_reducible repeat (first | apply Kd.R_alloc | apply Kd.R_drewN | apply Kd.R_drew)); exact HO451.out) (Kd.R_base ho14) hb); have n3_ := Aside0.mk (Kd.R_lower (Kd.R_new' (Kd.R_new' (Kd.R_new' ho14 (Kd.R_lt (by (with_reducible repeat (first | apply Kd.R_alloc | apply Kd.R_drewN | apply Kd.R_drew)); exact HO445.out))) (Kd.R_lt (by (with_reducible repeat (first | apply Kd.R_alloc | apply Kd.R_drewN | apply Kd.R_drew)); exact HO448.out))) (Kd.R_lt (by (with_reducible repeat (first | apply Kd.R_alloc | apply Kd.R_drewN | apply Kd.R_drew)); exact HO451.out))) (below_size (by repeat (first | (with_reducible first | exact HB.out | apply below_alloc | apply pw_below_drewN | apply below_drew1) | exact HB.out)))); have n4_ := Aside0.mk (below_step (by repeat (first | (with_reducible first | exact HB.out | apply below_alloc | apply pw_below_drewN | apply below_drew1) | exact HB.out)) hb); clear HO445; clear HO448; clear HO451; clear HB; have HO445 := n0_; have HO448 := n1_; have HO451 := n2_; have HO455 := n3_; have HB := n4_; clear n0_ n1_ n2_ n3_ n4_; clear hb ho14; obtain ⟨Ao15, co15, eo15⟩ := Kd.R_slice HO455.out; subst eo15) | (go_at_call 82; (with_reducible refine (seek_Find.calls _ _ y453 5 t456 _ ?side1 ?side2 A4.out).mono ?_); (case side1 => repeat (first | exact (Kd.R_reads' HO455.out).2.2 | (with_reducible refine Kd.C_alloc ?_ _) | (with_reducible refine Kd.C_drewN ?_ _) | (with_reducible refine Kd.C_drew ?_))); (case side2 => exact (Kd.R_reads' HO455.out).2.1); rintro e w16 ⟨rfl, hb⟩; have n0_ := Aside0.mk (Kd.R_below (by (with_reducible repeat (first | apply Kd.R_alloc | apply Kd.R_drewN | apply Kd.R_drew)); exact HO445.out) hb); have n1_ := Aside0.mk (Kd.R_below (by (with_reducible repeat (first | apply Kd.R_alloc | apply Kd.R_drewN | apply Kd.R_drew)); exact HO448.out) hb); have n2_ := Aside0.mk (Kd.R_below (by (with_reducible repeat (first | apply Kd.R_alloc | apply Kd.R_drewN | apply Kd.R_drew)); exact HO451.out) hb); have n3_ := Aside0.mk (Kd.R_below (by (with_reducible repeat (first | apply Kd.R_alloc | apply Kd.R_drewN | apply Kd.R_drew)); exact HO455.out) hb); have n4_ := Aside0.mk (below_step (by repeat (first | (with_reducible first | exact HB.out | apply below_alloc | apply pw_below_drewN | apply below_drew1) | exact HB.out)) hb); clear HO445; clear HO448; clear HO451; clear HO455; clear HB; have HO445 := n0_; have HO448 := n1_; have HO451 := n2_; have HO455 := n3_; have HB := n4_; clear n0_ n1_ n2_ n3_ n4_; (try clear hb); (try clear hb2); (try clear hk); (try clear hi)))
    go_ret
    exact ⟨by first | rfl | (simp [errW_none, errW_some] <;> rfl) | (simp [*, errW_none, errW_some] <;> rfl), by repeat (first | (with_reducible first | exact HB.out | apply below_alloc | apply pw_below_drewN | apply below_drew1) | exact HB.out)⟩
  · replace c3 := Bool.eq_false_iff.mpr c3
    subst c3
    have H1 : (some false) = some r := by rw [if_neg (show ¬ (false = true) by decide)] at H; exact H
    clear H
    have H := H1
    clear H1
    obtain rfl := Option.some.inj H
    go_enter Tryd.func48, Tryd.ntmps48
    go_wp2_with (first | ((with_reducible refine gate_dst (N := 1) rfl ?_); (try (refine gate_guard (by rfl) ?_; dsimp only)); refine Kd.R_lit (Kd.int .i64) _ 3 ?hg (N := 1) ?hd (xs := ([0, 5, 5, 9, 9] : List Int)) (inner := [.int .i64 0, .int .i64 5, .int .i64 5, .int .i64 9, .int .i64 9]) (ok := fun _ => True) (okp := fun _ => True) ?hr ?hp (fun _ hk => hk) trivial (Below.refl _ _) (Nat.le_refl _) (by simp) ?_; (case hd => rfl); (case hg => rfl); (case hr => first | (go_simp; done) | (go_simp; rfl)); (case hp => exact (Reps.one (show Kd.M (Kd.int .i64) _ _ _ 0 [.int .i64 0] from rfl) (Reps.one (show Kd.M (Kd.int .i64) _ _ _ 5 [.int .i64 5] from rfl) (Reps.one (show Kd.M (Kd.int .i64) _ _ _ 5 [.int .i64 5] from rfl) (Reps.one (show Kd.M (Kd.int .i64) _ _ _ 9 [.int .i64 9] from rfl) (Reps.one (show Kd.M (Kd.int .i64) _ _ _ 9 [.int .i64 9] from rfl) (Reps.none _ _))))))); intro v444 w17 ho18 hb hg_ hnew_; clear hg_ hnew_; (first | rw [← Ny443.out] at ho18 | (simp only [Int.reduceToNat] at ho18; rw [← Ny443.out] at ho18)); have n0_ := Aside0.mk (Kd.R_lower ho18 (below_size (by repeat (first | (with_reducible first | exact HB.out | apply below_alloc | apply pw_below_drewN | apply below_drew1) | exact HB.out)))); have n1_ := Aside0.mk (below_step (by repeat (first | (with_reducible first | exact HB.out | apply below_alloc | apply pw_below_drewN | apply below_drew1) | exact HB.out)) hb); clear HB; have HO445 := n0_; have HB := n1_; clear n0_ n1_; clear hb ho18; obtain ⟨Ao19, co19, eo19⟩ := Kd.R_slice HO445.out; subst eo19) | ((with_reducible refine gate_callee (f := 81) rfl ?_); refine goesL_ (some 2) rfl rfl Tryd.func81 (by kernel_rfl) rfl #[.slice Ao19 y443.length co19, .int .i64 4] rfl (by (try simp only [List.map_toArray, List.map_cons, List.map_nil]); first | done | rfl | (simp only [List.length_drop, List.length_take]; rfl)) ?_; (with_reducible refine (seek_Probes.calls _ _ y443 4 t446 _ ?side1 ?side2 A1.out).mono ?_); (case side1 => repeat (first | exact (Kd.R_reads' HO445.out).2.2 | (with_reducible refine Kd.C_alloc ?_ _) | (with_reducible refine Kd.C_drewN ?_ _) | (with_reducible refine Kd.C_drew ?_))); (case side2 => exact (Kd.R_reads' HO445.out).2.1); rintro e w20 ⟨v447, rfl, ho0, hb⟩; refine ⟨_, rfl, ?_⟩; have n0_ := Aside0.mk (Kd.R_elder' (by (with_reducible repeat (first | apply Kd.R_alloc | apply Kd.R_drewN | apply Kd.R_drew)); exact HO445.out) (Kd.R_base ho0) hb); have n1_ := Aside0.mk (Kd.R_lower (Kd.R_new' ho0 (Kd.R_lt (by (with_reducible repeat (first | apply Kd.R_alloc | apply Kd.R_drewN | apply Kd.R_drew)); exact HO445.out))) (below_size (by repeat (first | (with_reducible first | exact HB.out | apply below_alloc | apply pw_below_drewN | apply below_drew1) | exact HB.out)))); have n2_ := Aside0.mk (below_step (by repeat (first | (with_reducible first | exact HB.out | apply below_alloc | apply pw_below_drewN | apply below_drew1) | exact HB.out)) hb); clear HO445; clear HB; have HO445 := n0_; have HO448 := n1_; have HB := n2_; clear n0_ n1_ n2_; (try clear hb); (try clear hb2); (try clear hk); (try clear hi); (try clear ho0)) | ((with_reducible refine gate_dst (N := 3) rfl ?_); (try (refine gate_guard (by rfl) ?_; dsimp only)); refine Kd.R_lit (Kd.int .i64) _ 3 ?hg (N := 3) ?hd (xs := ([0, 2, 1] : List Int)) (inner := [.int .i64 0, .int .i64 2, .int .i64 1]) (ok := fun _ => True) (okp := fun _ => True) ?hr ?hp (fun _ hk => hk) trivial (Below.refl _ _) (Nat.le_refl _) (by simp) ?_; (case hd => rfl); (case hg => rfl); (case hr => first | (go_simp; done) | (go_simp; rfl)); (case hp => exact (Reps.one (show Kd.M (Kd.int .i64) _ _ _ 0 [.int .i64 0] from rfl) (Reps.one (show Kd.M (Kd.int .i64) _ _ _ 2 [.int .i64 2] from rfl) (Reps.one (show Kd.M (Kd.int .i64) _ _ _ 1 [.int .i64 1] from rfl) (Reps.none _ _))))); intro v450 w21 ho22 hb hg_ hnew_; clear hg_ hnew_; (first | rw [← Ny449.out] at ho22 | (simp only [Int.reduceToNat] at ho22; rw [← Ny449.out] at ho22)); have n0_ := Aside0.mk (Kd.R_elder' (by (with_reducible repeat (first | apply Kd.R_alloc | apply Kd.R_drewN | apply Kd.R_drew)); exact HO445.out) (Kd.R_base ho22) hb); have n1_ := Aside0.mk (Kd.R_elder' (by (with_reducible repeat (first | apply Kd.R_alloc | apply Kd.R_drewN | apply Kd.R_drew)); exact HO448.out) (Kd.R_base ho22) hb); have n2_ := Aside0.mk (Kd.R_lower (Kd.R_new' (Kd.R_new' ho22 (Kd.R_lt (by (with_reducible repeat (first | apply Kd.R_alloc | apply Kd.R_drewN | apply Kd.R_drew)); exact HO445.out))) (Kd.R_lt (by (with_reducible repeat (first | apply Kd.R_alloc | apply Kd.R_drewN | apply Kd.R_drew)); exact HO448.out))) (below_size (by repeat (first | (with_reducible first | exact HB.out | apply below_alloc | apply pw_below_drewN | apply below_drew1) | exact HB.out)))); have n3_ := Aside0.mk (below_step (by repeat (first | (with_reducible first | exact HB.out | apply below_alloc | apply pw_below_drewN | apply below_drew1) | exact HB.out)) hb); clear HO445; clear HO448; clear HB; have HO445 := n0_; have HO448 := n1_; have HO451 := n2_; have HB := n3_; clear n0_ n1_ n2_ n3_; clear hb ho22; obtain ⟨Ao23, co23, eo23⟩ := Kd.R_slice HO448.out; subst eo23; obtain ⟨Ao24, co24, eo24⟩ := Kd.R_slice HO451.out; subst eo24) | ((with_reducible refine gate_callee (f := 13) rfl ?_); refine goesL_ (some 4) rfl rfl Tryd.func13 (by kernel_rfl) rfl #[.slice Ao23 t446.length co23, .slice Ao24 y449.length co24] rfl (by (try simp only [List.map_toArray, List.map_cons, List.map_nil]); first | done | rfl | (simp only [List.length_drop, List.length_take]; rfl)) ?_; (with_reducible refine (slices_Equal_int_int.calls k _ _ t446 _ _ y449 false _ ?side1 ?side2 ?side3 ?side4 A2.out).mono ?_); (case side1 => repeat (first | exact (Kd.R_reads' HO448.out).2.2 | (with_reducible refine Kd.C_alloc ?_ _) | (with_reducible refine Kd.C_drewN ?_ _) | (with_reducible refine Kd.C_drew ?_))); (case side2 => exact (Kd.R_reads' HO448.out).2.1); (case side3 => repeat (first | exact (Kd.R_reads' HO451.out).2.2 | (with_reducible refine Kd.C_alloc ?_ _) | (with_reducible refine Kd.C_drewN ?_ _) | (with_reducible refine Kd.C_drew ?_))); (case side4 => exact (Kd.R_reads' HO451.out).2.1); rintro e w' ⟨rfl, ⟨nd, rfl⟩⟩; refine ⟨_, rfl, ?_⟩))
    go_ret
    exact ⟨by first | rfl | (simp [errW_none, errW_some] <;> rfl) | (simp [*, errW_none, errW_some] <;> rfl), by repeat (first | (with_reducible first | exact HB.out | apply below_alloc | apply pw_below_drewN | apply below_drew1) | exact HB.out)⟩
end Go.Proofs.YteamljekjncbfaaDoor.P
end
section
set_option linter.unusedVariables false
set_option linter.unusedSimpArgs false
namespace Go.Proofs.YteamljekjncbfaaDoor.P
open Go.RowKit Go.Proofs.YteamljekjncbfaaDoorW.PrintWords Go.Proofs.YteamljekjncbfaaDoorW.PrintLast Go.Proofs.YteamljekjncbfaaDoorW.PrintMore
theorem ints_l0 (l : List Int) (hl : l.length < 1000000000) : ∀ (d k : Nat) (i : Int), 0 ≤ i → i ≤ l.length → (l.length : Int) - i = d → d < k →
    slices_Equal_int_int.l0 k l l (l.length : Int) i = some true := by
  intro d
  induction d with
  | zero =>
    intro k i h0 h1 hd hk
    obtain ⟨k, rfl⟩ : ∃ m, k = m + 1 := ⟨k - 1, by omega⟩
    simp only [slices_Equal_int_int.l0]
    rw [if_neg (by omega)]
  | succ d ih =>
    intro k i h0 h1 hd hk
    obtain ⟨k, rfl⟩ : ∃ m, k = m + 1 := ⟨k - 1, by omega⟩
    simp only [slices_Equal_int_int.l0]
    rw [if_pos (by omega), if_pos h0, if_pos (by omega), if_pos (by omega), if_pos trivial, show wrap64 (i + 1) = i + 1 from by unfold wrap64; omega]
    exact ih k (i + 1) (by omega) (by omega) (by omega) (by omega)
theorem ints_same (l : List Int) (hl : l.length < 1000000000) (k : Nat) (hk : l.length < k) : slices_Equal_int_int.f k l l = some true := by
  unfold slices_Equal_int_int.f
  rw [if_pos rfl]
  exact ints_l0 l hl l.length k 0 (by omega) (by omega) (by omega) hk
theorem awake20_f (k : Nat) (hk : 10 < k) : annalslaw20_awake.f k = some true := by
  unfold annalslaw20_awake.f seek_Probes.f seek_Find.f
  have e1 : lookRun [0, 5, 5, 9, 9] 4 = ([0, 2, 1], 0) := by decide +kernel
  have e2 : lookRun [0, 5, 5, 9, 9] 5 = ([0, 2, 3], 2) := by decide +kernel
  rw [if_pos (by simp), if_pos (by simp), e1, e2]
  simp only [Option.bind_some]
  rw [ints_same [0, 2, 1] (by simp) k (by simp; omega)]
  rfl
theorem awake20_calls (w : World) : Calls Tryd.prog 48 #[] w fun e w' => e = .returned (.bool true) ∧ Below w.heap.size w w' := annalslaw20_awake.calls 100 true w (awake20_f 100 (by decide))
end Go.Proofs.YteamljekjncbfaaDoor.P
end
section
set_option linter.unusedVariables false
set_option linter.unusedSimpArgs false
namespace Go.Proofs.YteamljekjncbfaaDoor.P
open Go.RowKit Go.Proofs.YteamljekjncbfaaDoor.Pure Go.Proofs.YteamljekjncbfaaDoorW.PrintWords Go.Proofs.YteamljekjncbfaaDoorW.PrintLast Go.Proofs.YteamljekjncbfaaDoorW.PrintMore
def SameR (a b : Rec) : Prop := a.f0 = b.f0 ∧ a.f1 = b.f1 ∧ a.f2 = b.f2 ∧ a.f3 = b.f3 ∧ a.f4 = b.f4 ∧ a.f5 = b.f5
instance (a b : Rec) : Decidable (SameR a b) := by unfold SameR; infer_instance
theorem SameR.refl (a : Rec) : SameR a a := ⟨rfl, rfl, rfl, rfl, rfl, rfl⟩
theorem SameR.eq {a b : Rec} (h : SameR a b) : a = b := by
  cases a
  cases b
  obtain ⟨h0, h1, h2, h3, h4, h5⟩ := h
  simp only at h0 h1 h2 h3 h4 h5
  subst h0 h1 h2 h3 h4 h5
  rfl
theorem strNum_iff {a b : List Int} (ha : BytesOk a) (hb : BytesOk b) : ((strOfNums a).toList = (strOfNums b).toList) ↔ a = b := by
  have := strNum_eq ha hb
  rw [Bool.eq_iff_iff, beq_iff_eq, decide_eq_true_eq] at this
  exact this
theorem same_l0 (a b : Rec) (ha : ∀ p ∈ a.f5, BytesOk p) (hb : ∀ p ∈ b.f5, BytesOk p) (hl : a.f5.length = b.f5.length) (hm : a.f5.length ≤ 9223372036854775807) : ∀ (d k i : Nat), i + d = a.f5.length → d < k →
    annalsref13_Same.l0 k (a.f5.length : Int) (i : Int) a.f0 a.f1 a.f2 a.f3 a.f4 a.f5 b.f0 b.f1 b.f2 b.f3 b.f4 b.f5 = some (decide (a.f5.drop i = b.f5.drop i)) := by
  intro d
  induction d with
  | zero =>
    intro k i hi hk
    obtain ⟨k, rfl⟩ : ∃ m, k = m + 1 := ⟨k - 1, by omega⟩
    simp only [annalsref13_Same.l0]
    rw [if_neg (by omega), List.drop_of_length_le (by omega), List.drop_of_length_le (by omega)]
    rfl
  | succ d ih =>
    intro k i hi hk
    obtain ⟨k, rfl⟩ : ∃ m, k = m + 1 := ⟨k - 1, by omega⟩
    have h1 : i < a.f5.length := by omega
    have h2 : i < b.f5.length := by omega
    simp only [annalsref13_Same.l0]
    rw [if_pos (by omega), if_pos (by omega), if_pos (by omega), if_pos (by omega), rd_L1_at _ _ h1, rd_L1_at _ _ h2, List.drop_eq_getElem_cons h1, List.drop_eq_getElem_cons h2]
    have hq := strNum_iff (ha _ (List.getElem_mem h1)) (hb _ (List.getElem_mem h2))
    by_cases he : a.f5[i] = b.f5[i]
    · rw [if_pos (hq.2 he), wrap64_id _ (by omega), show ((i : Int) + 1) = ((i + 1 : Nat) : Int) by omega, ih k (i + 1) (by omega) (by omega)]
      exact congrArg some (decide_eq_decide.2 ⟨fun h => by rw [he, h], fun h => (List.cons.inj h).2⟩)
    · rw [if_neg (fun h => he (hq.1 h)), decide_eq_false (fun h => he (List.cons.inj h).1)]
theorem same_f (a b : Rec) (ha : RecOk a) (hb : RecOk b) (k : Nat) (hk : a.f5.length + 2 < k) (hm : a.f5.length ≤ 9223372036854775807) : annalsref13_Same.f k a.f0 a.f1 a.f2 a.f3 a.f4 a.f5 b.f0 b.f1 b.f2 b.f3 b.f4 b.f5 = some (decide (SameR a b)) := by
  obtain ⟨k, rfl⟩ : ∃ m, k = m + 1 := ⟨k - 1, by omega⟩
  have hno : ¬ SameR a b → annalsref13_Same.j0 (k + 1) true a.f0 a.f1 a.f2 a.f3 a.f4 a.f5 b.f0 b.f1 b.f2 b.f3 b.f4 b.f5 = some (decide (SameR a b)) := fun h => by
    simp only [annalsref13_Same.j0]
    rw [if_pos trivial, decide_eq_false h]
  unfold annalsref13_Same.f
  by_cases h0 : a.f0 = b.f0
  case neg => rw [if_neg h0]; exact hno (fun h => h0 h.1)
  rw [if_pos h0]
  by_cases h1 : a.f1 = b.f1
  case neg => rw [if_neg h1]; exact hno (fun h => h1 h.2.1)
  rw [if_pos h1]
  by_cases h2 : a.f2 = b.f2
  case neg => rw [if_neg (fun h => h2 ((strNum_iff ha.t2 hb.t2).1 h))]; exact hno (fun h => h2 h.2.2.1)
  rw [if_pos ((strNum_iff ha.t2 hb.t2).2 h2)]
  by_cases h3 : a.f3 = b.f3
  case neg => rw [if_neg h3]; exact hno (fun h => h3 h.2.2.2.1)
  rw [if_pos h3]
  by_cases h4 : a.f4 = b.f4
  case neg => rw [if_neg (fun h => h4 ((strNum_iff ha.t4 hb.t4).1 h))]; exact hno (fun h => h4 h.2.2.2.2.1)
  rw [if_pos ((strNum_iff ha.t4 hb.t4).2 h4)]
  by_cases hl : a.f5.length = b.f5.length
  case neg =>
    rw [show ((a.f5.length : Int) != (b.f5.length : Int)) = true from by simp; omega]
    exact hno (fun h => hl (by rw [h.2.2.2.2.2]))
  rw [show ((a.f5.length : Int) != (b.f5.length : Int)) = false from by simp; omega]
  simp only [annalsref13_Same.j0]
  rw [if_neg (by simp)]
  have := same_l0 a b ha.t5 hb.t5 hl hm a.f5.length k 0 (by omega) (by omega)
  rw [List.drop_zero, List.drop_zero] at this
  refine this.trans (congrArg some (decide_eq_decide.2 ⟨fun h => ⟨h0, h1, h2, h3, h4, h⟩, fun h => h.2.2.2.2.2⟩))
theorem followS_ok (size t : Int) : ∀ (l : List Rec) (x y : Rec), CanR size x → RecOk x → (∀ r ∈ l, RecOk r) → followS size t x l = some y → CanR size y ∧ RecOk y ∧ y.f0 = t := by
  intro l
  induction l with
  | nil =>
    intro x y hx ho _ h
    simp only [followS] at h
    split at h
    · rename_i hxt
      obtain rfl := Option.some.inj h
      exact ⟨hx, ho, hxt⟩
    · cases h
  | cons r l ih =>
    intro x y hx ho hl h
    simp only [followS] at h
    split at h
    · cases h
    · split at h
      · rename_i hc
        exact ih r y hc.2.1 (hl r List.mem_cons_self) (fun q hq => hl q (List.mem_cons_of_mem _ hq)) h
      · cases h
theorem zero_ok : RecOk z40 := ⟨by decide, by decide, (by intro x hx; cases hx), (by intro x hx; cases hx), (by intro x hx; cases hx)⟩
theorem handed_ok (size t : Int) (x : Rec) (way : List Rec) (ho : RecOk x) (hl : ∀ r ∈ way, RecOk r) : RecOk (handed (followR size x way t)).1 ∧ (handed (followR size x way t)).1.f5.length ≤ 63 := by
  cases h : followR size x way t with
  | none => exact ⟨zero_ok, Nat.zero_le _⟩
  | some y =>
    unfold followR at h
    split at h
    · rename_i hc
      have := followS_ok size t way x y hc.1 ho hl h
      exact ⟨this.2.1, (can_links size y this.1).1⟩
    · cases h
attribute [local go_sem] max2_int min2_int max_two min_two
end Go.Proofs.YteamljekjncbfaaDoor.P
end
section
set_option linter.unusedVariables false
set_option linter.unusedSimpArgs false
namespace Go.Proofs.YteamljekjncbfaaDoor.P
open Go.RowKit Go.Proofs.YteamljekjncbfaaDoor.Pure Go.Proofs.YteamljekjncbfaaDoorW.PrintWords Go.Proofs.YteamljekjncbfaaDoorW.PrintLast Go.Proofs.YteamljekjncbfaaDoorW.PrintMore
theorem found_ok (at_ : Int → Int → Int) (size t : Int) (x : Rec) (seen : List (List Rec)) (ho : RecOk x) (hl : ∀ l ∈ seen, ∀ r ∈ l, RecOk r) : RecOk (handed (seekR at_ size x seen t)).1 ∧ (handed (seekR at_ size x seen t)).1.f5.length ≤ 63 := by
  cases h : seekR at_ size x seen t with
  | none => exact ⟨zero_ok, Nat.zero_le _⟩
  | some y =>
    exact seekR_ok at_ size x t (fun r => RecOk r ∧ r.f5.length ≤ 63) (fun l e r hl hr => by
      have := handed_ok size e x l ho hl
      rw [hr] at this
      exact this) seen y hl h
attribute [local go_sem] max2_int min2_int max_two min_two
end Go.Proofs.YteamljekjncbfaaDoor.P
end
section
set_option linter.unusedVariables false
set_option linter.unusedSimpArgs false
namespace Go.Proofs.YteamljekjncbfaaDoor.P
open Go.RowKit Go.Proofs.YteamljekjncbfaaDoor.Pure Go.Proofs.YteamljekjncbfaaDoorW.PrintWords Go.Proofs.YteamljekjncbfaaDoorW.PrintLast Go.Proofs.YteamljekjncbfaaDoorW.PrintMore
theorem equal_calls {A B : Option Addr} {c d : Nat} {l m : List Int} {w : World} (hl : BytesOk l) (hm : BytesOk m) (h1 : Kd.C (Kd.int .u8) w A l.length l) (h2 : l.length ≤ c) (h3 : Kd.C (Kd.int .u8) w B m.length m) (h4 : m.length ≤ d) :
    Calls Tryd.prog 24 #[.slice A l.length c, .slice B m.length d] w fun e w' => e = .returned (.bool (decide (l = m))) ∧ Drawn0 w w' := by
  rw [← strNum_eq hl hm]
  exact bytes_Equal.calls A c l B d m _ w h1 h2 h3 h4 rfl
theorem rec_keep {w w' : World} {ad : Addr} {k : Nat} {x : Rec} {p : Rows6} (hb : Below w.heap.size w w') (h : w.cell? (ad.add (k * 6)) = some (.int .i64 x.f0) ∧ w.cell? ⟨(ad.add (k * 6)).block, (ad.add (k * 6)).off + 1, none⟩ = some (.int .i64 x.f1) ∧ w.cell? ⟨(ad.add (k * 6)).block, (ad.add (k * 6)).off + 2, none⟩ = some (.slice p.A2 x.f2.length p.c2) ∧ w.cell? ⟨(ad.add (k * 6)).block, (ad.add (k * 6)).off + 3, none⟩ = some (.int .i64 x.f3) ∧ w.cell? ⟨(ad.add (k * 6)).block, (ad.add (k * 6)).off + 4, none⟩ = some (.slice p.A4 x.f4.length p.c4) ∧ w.cell? ⟨(ad.add (k * 6)).block, (ad.add (k * 6)).off + 5, none⟩ = some (.slice p.A5 x.f5.length p.c5)) :
    w'.cell? (ad.add (k * 6)) = some (.int .i64 x.f0) ∧ w'.cell? ⟨(ad.add (k * 6)).block, (ad.add (k * 6)).off + 1, none⟩ = some (.int .i64 x.f1) ∧ w'.cell? ⟨(ad.add (k * 6)).block, (ad.add (k * 6)).off + 2, none⟩ = some (.slice p.A2 x.f2.length p.c2) ∧ w'.cell? ⟨(ad.add (k * 6)).block, (ad.add (k * 6)).off + 3, none⟩ = some (.int .i64 x.f3) ∧ w'.cell? ⟨(ad.add (k * 6)).block, (ad.add (k * 6)).off + 4, none⟩ = some (.slice p.A4 x.f4.length p.c4) ∧ w'.cell? ⟨(ad.add (k * 6)).block, (ad.add (k * 6)).off + 5, none⟩ = some (.slice p.A5 x.f5.length p.c5) := by
  have g : ∀ {a : Addr} {v : Value}, w.cell? a = some v → w'.cell? a = some v := fun h => (hb.cell (World.block_lt_of_cell? w _ h)).trans h
  exact ⟨g h.1, g h.2.1, g h.2.2.1, g h.2.2.2.1, g h.2.2.2.2.1, g h.2.2.2.2.2⟩
attribute [local go_sem] max2_int min2_int max_two min_two
end Go.Proofs.YteamljekjncbfaaDoor.P
end
