/-
  seek.Probes, seek.Find: what they answer, out of the walk of seek.run.
-/
import Derived.Test.YtbedgjjiinhpkaaSeekB
import Derived.Shelf.Abstract
set_option linter.unusedVariables false
set_option linter.unusedSimpArgs false
namespace Go.Proofs.Ytbedgjjiinhpkaa.P
open Go.RowKit Go.Proofs.YtbedgjjiinhpkaaW.PrintWords Go.Proofs.YtbedgjjiinhpkaaW.PrintLast Go.Proofs.YtbedgjjiinhpkaaW.PrintMore

set_option maxHeartbeats 1600000 in
set_option maxRecDepth 100000 in
theorem run_none (F : Nat) (caps : Array Value) (I : World → List Int → Prop) (A0 : Option Addr) (c0 : Nat) (ts : List Int) (t : Int) (w0 w : World)
    (hn : ts.length = 0) (hI : I w []) (hB : Below w0.heap.size w0 w) :
    Calls Try.prog 13 #[.slice A0 ts.length c0, .int .i64 t, .func (.func F) #[] caps] w fun e w' => e = .returned (.int .i64 (lookRun ts t).2) ∧ I w' (lookRun ts t).1 ∧ Below w0.heap.size w0 w' := by
  have H0 : Hid (lookRun ts t = ([], -1)) := by unfold lookRun; rw [if_pos hn]; rfl
  have HI := Aside0.mk hI
  have HB := Aside0.mk hB
  clear hI hB
  have n0 : ((ts.length : Int) == 0) = true := by simp; exact List.eq_nil_of_length_eq_zero hn
  clear hn
  go_enter Try.func13, Try.ntmps13
  go_wp2_with fail
  go_ret
  refine ⟨?_, ?_, HB.out⟩
  · rw [H0.out]; rfl
  · rw [H0.out]; exact HI.out

set_option maxHeartbeats 1600000 in
set_option maxRecDepth 100000 in
theorem run_early (F : Nat) (caps : Array Value) (I : World → List Int → Prop) (A0 : Option Addr) (c0 : Nat) (ts : List Int) (t : Int) (w0 w : World) (hL : Look w0 F caps I)
    (hr : Kd.C (Kd.int .i64) w0 A0 ts.length ts) (hn : 0 < ts.length) (ht : t < rd ts 0) (hI : I w []) (hB : Below w0.heap.size w0 w) :
    Calls Try.prog 13 #[.slice A0 ts.length c0, .int .i64 t, .func (.func F) #[] caps] w fun e w' => e = .returned (.int .i64 (lookRun ts t).2) ∧ I w' (lookRun ts t).1 ∧ Below w0.heap.size w0 w' := by
  have H0 : Hid (lookRun ts t = ([0], -1)) := by unfold lookRun; rw [if_neg (by omega), if_pos ht]; rfl
  have HR := Aside0.mk hr
  have HL := Aside0.mk hL
  have HI := Aside0.mk hI
  have HB := Aside0.mk hB
  clear hr hL hI hB
  have n0 : ((ts.length : Int) == 0) = false := by simp; intro h; simp [h] at hn
  obtain ⟨ad, rfl, hx0⟩ := Kd.at_int HR.out 0 (by omega) (by omega)
  have hp0 : (0 : Int) < (ts.length : Int) := by omega
  have ht' : decide (t < rd ts 0) = true := by simp; omega
  have hE := HL.out.enter
  go_enter Try.func13, Try.ntmps13
  go_wp2_with fail
  refine (HL.out.call [] 0 _ HI.out HB.out (by simp)).mono ?_
  rintro e1 w1 ⟨rfl, hI1, hB1, hK1⟩
  have HI1 := Aside0.mk hI1
  have HB1 := Aside0.mk hB1
  clear hI1 hB1 hK1 HI HB
  have hx1 := (HB1.out.cell (World.block_lt_of_cell? w0 _ hx0)).trans hx0
  clear hx0
  rw [show ad.add (Int.toNat 0) = ad from by simp [Addr.add]] at hx1
  go_wp2_with fail
  go_ret
  refine ⟨?_, ?_, HB1.out⟩
  · rw [H0.out]; rfl
  · rw [H0.out]; exact HI1.out

theorem run_any (F : Nat) (caps : Array Value) (I : World → List Int → Prop) (A0 : Option Addr) (c0 : Nat) (ts : List Int) (t : Int) (w0 w : World) (hL : Look w0 F caps I)
    (hr : Kd.C (Kd.int .i64) w0 A0 ts.length ts) (hc : ts.length ≤ c0) (hb : ts.length < 1000000) (hI : I w []) (hB : Below w0.heap.size w0 w) :
    Calls Try.prog 13 #[.slice A0 ts.length c0, .int .i64 t, .func (.func F) #[] caps] w fun e w' => e = .returned (.int .i64 (lookRun ts t).2) ∧ I w' (lookRun ts t).1 ∧ Below w0.heap.size w0 w' := by
  by_cases hn : ts.length = 0
  · exact run_none F caps I A0 c0 ts t w0 w hn hI hB
  · by_cases ht : t < rd ts 0
    · exact run_early F caps I A0 c0 ts t w0 w hL hr (by omega) ht hI hB
    · exact run_some F caps I A0 c0 ts t w0 w hL hr hc hb (by omega) ht hI hB

theorem enters_body {f : FuncId} {fn : Func} {c : Code} (hf : Try.prog.funcs[f]? = some fn) (hname : (fn.name == "runtime.NumGoroutine") = false) (hb : fn.body = some c) (args : Array Value) (w : World) : (callFunc f args).run Try.prog w = .ok (.enter f args) w :=
  enters_of hf hname hb args w

theorem probesLook (w0 : World) (B : Nat) : Look w0 14 #[.pointer (some ⟨B, 0, none⟩)] (fun W l => Cap w0 W B l) where
  enter := enters_body Try.func14 (by kernel_rfl) rfl
  call := fun l e W hI hB hl => probes1_calls B l e w0 W hI hB hl
  alloc := by
    rintro W l cs ⟨hge, v, hb, hR⟩
    exact ⟨hge, v, blk_alloc hb _, Kd.R_alloc hR _⟩
  keep := by
    rintro W W' l g cs ⟨hge, v, hb, hR⟩ hg hk
    have hne : B ≠ g := by
      rintro rfl
      rw [hb] at hg
      injection hg with hg
      injection hg with _ hg
      exact absurd hg (by decide)
    refine ⟨hge, v, (hk.2 B (blk_lt hb) hne (by simp)).trans hb, ?_⟩
    exact Kd.R_mono (Kd.R_keep (Kd.R_types hR hg (by decide)) hk (fun _ h => h.2)) (fun _ _ => trivial)

set_option maxHeartbeats 400000 in
theorem find1_calls (e : Int) (w : World) :
    Calls Try.prog 15 #[.int .i64 e] w fun e' w' => e' = .returned (.tuple #[]) ∧ w = w' := by
  go_enter Try.func15, Try.ntmps15
  go_wp2
  go_end0
  exact ⟨rfl, rfl⟩

theorem findLook (w0 : World) : Look w0 15 #[] (fun _ _ => True) where
  enter := enters_body Try.func15 (by kernel_rfl) rfl
  call := fun l e W hI hB hl => (find1_calls e W).mono (by rintro e' w' ⟨rfl, rfl⟩; exact ⟨rfl, trivial, hB, KeepTy.refl _ _⟩)
  alloc := fun _ _ _ _ => trivial
  keep := fun _ _ _ _ _ _ _ _ => trivial

/-- What seek.Probes answers. -/
def seek_Probes.f (l0 : List Int) (a1 : Int) : Option (List Int) := if l0.length < 1000000 then some (lookRun l0 a1).1 else none
/-- What seek.Find answers. -/
def seek_Find.f (l0 : List Int) (a1 : Int) : Option Int := if l0.length < 1000000 then some (lookRun l0 a1).2 else none

set_option maxHeartbeats 400000 in
set_option maxRecDepth 100000 in
theorem seek_Find.calls (A0 : Option Addr) (c0 : Nat) (l0 : List Int) (a1 : Int) (r : Int) (w : World) (hr0 : Kd.C (Kd.int .i64) w A0 l0.length l0) (hc0 : l0.length ≤ c0) (h : seek_Find.f l0 a1 = some r) :
    Calls Try.prog 8 #[.slice A0 l0.length c0, .int .i64 a1] w fun e w' => e = .returned (.int .i64 r) ∧ Below w.heap.size w w' := by
  unfold seek_Find.f at h
  split at h
  case isFalse => cases h
  case isTrue hb =>
    obtain rfl := Option.some.inj h
    clear h
    go_enter Try.func8, Try.ntmps8
    go_wp2_with fail
    refine (run_any 15 #[] (fun _ _ => True) A0 c0 l0 a1 w w (findLook w) hr0 hc0 hb trivial (Below.refl _ _)).mono ?_
    rintro e1 w1 ⟨rfl, _, hB⟩
    go_wp2_with fail
    go_ret
    exact ⟨rfl, hB⟩

set_option maxHeartbeats 400000 in
set_option maxRecDepth 100000 in
theorem seek_Probes.calls (A0 : Option Addr) (c0 : Nat) (l0 : List Int) (a1 : Int) (r : List Int) (w : World) (hr0 : Kd.C (Kd.int .i64) w A0 l0.length l0) (hc0 : l0.length ≤ c0) (h : seek_Probes.f l0 a1 = some r) :
    Calls Try.prog 6 #[.slice A0 l0.length c0, .int .i64 a1] w fun e w' => ∃ v0_ : Value, e = .returned (v0_) ∧ Kd.R (Kd.int .i64) 3 w' w.heap.size (fun _ => True) v0_ r ∧ Below w.heap.size w w' := by
  unfold seek_Probes.f at h
  split at h
  case isFalse => cases h
  case isTrue hb =>
    obtain rfl := Option.some.inj h
    clear h
    have hmf : ∀ (fn : Fn) (first cap : Array Value) (w : World), (Instr.makeFunc fn first cap).run Try.prog w = .ok (.func fn first cap) w := fun _ _ _ _ => rfl
    have HR := Aside0.mk hr0
    clear hr0
    go_enter Try.func6, Try.ntmps6
    go_wp2_with fail
    refine (run_any 14 #[.pointer (some ⟨w.heap.size, 0, none⟩)] (fun W l => Cap w W w.heap.size l) A0 c0 l0 a1 w _ (probesLook w w.heap.size) HR.out hc0 hb ⟨Nat.le_refl _, _, heap_alloc_new w _, Kd.R_nil _ _ _ _ _⟩ (below_alloc (Below.refl _ _) _)).mono ?_
    rintro e1 w1 ⟨rfl, ⟨_, v, hb1, hR1⟩, hB⟩
    have hc1 := (blk_cell hb1 0).trans rfl
    have HR1 := Aside0.mk hR1
    clear hR1 hb1
    go_wp2_with fail
    go_ret
    exact ⟨_, rfl, HR1.out, hB⟩

end Go.Proofs.Ytbedgjjiinhpkaa.P
