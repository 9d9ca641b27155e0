-- Printed by wip/tools/pw.py over the kit's printer, for this claim.
import Derived.Test.YtbedgjjiinhpkaaDoorPBase
namespace Go.Proofs.YtbedgjjiinhpkaaDoor.P
open Go.RowKit Go.Proofs.YtbedgjjiinhpkaaDoorW.PrintWords Go.Proofs.YtbedgjjiinhpkaaDoorW.PrintLast Go.Proofs.YtbedgjjiinhpkaaDoorW.PrintMore
attribute [local go_sem] max2_int min2_int max_two min_two max_three min_three max_four min_four   -- for this text's walks alone
set_option linter.unusedVariables false
set_option linter.unusedSimpArgs false

/-! ### annalsref14_Most: function 26 -/
def annalsref14_Most.l0 : Nat → Int → Int → Option (Int)
  | 0, _, _ => none
  | k + 1, x0, x3 => if x0 > 1 then (annalsref14_Most.l0 k (wrap64 (Int.tdiv x0 2)) (wrap64 (x3 + 2))) else (some x3)
def annalsref14_Most.f (k : Nat) (a0 : Int) : Option (Int) := if a0 < 1 then (some 0) else (annalsref14_Most.l0 k a0 2)
theorem annalsref14_Most.mono_l : ∀ k, (∀ y0 y1, LeO (annalsref14_Most.l0 k y0 y1) (annalsref14_Most.l0 (k + 1) y0 y1))
  | 0 => fun _ _ r h => by simp [annalsref14_Most.l0] at h
  | k + 1 => by
    have ih0 := annalsref14_Most.mono_l k
    · intro y0 y1
      unfold annalsref14_Most.l0
      repeat' first
      | (with_reducible exact ih0 _ _)
      | (with_reducible exact LeO.refl _)
      | (with_reducible exact LeO.none _)
      | (with_reducible refine LeO.ite ?_ ?_)
      | (with_reducible refine LeO.bind ?_ (fun _ => ?_))
      | exact ih0 _ _
      | exact LeO.none _
      | refine LeO.ite ?_ ?_
      | refine LeO.bind ?_ (fun _ => ?_)
theorem annalsref14_Most.mono : ∀ a0 k, LeO (annalsref14_Most.f k a0) (annalsref14_Most.f (k + 1) a0) := by
  intro a0 k
  have ih0 := annalsref14_Most.mono_l k
  unfold annalsref14_Most.f
  repeat' first
      | (with_reducible exact ih0 _ _)
      | (with_reducible exact LeO.refl _)
      | (with_reducible exact LeO.none _)
      | (with_reducible refine LeO.ite ?_ ?_)
      | (with_reducible refine LeO.bind ?_ (fun _ => ?_))
      | exact ih0 _ _
      | exact LeO.none _
      | refine LeO.ite ?_ ?_
      | refine LeO.bind ?_ (fun _ => ?_)
set_option maxHeartbeats 8000000 in
set_option maxRecDepth 100000 in
theorem annalsref14_Most.calls (k : Nat) (a0 : Int) (r : Int) (w : World) (h : annalsref14_Most.f k a0 = some r) :
    Calls Tryd.prog 26 #[.int .i64 a0] w fun e w' => e = .returned (.int .i64 r) ∧ Drawn0 w w' := by
  have H : (if a0 < 1 then (some 0) else (annalsref14_Most.l0 k a0 2)) = some r := h
  clear h
  by_cases c2 : a0 < 1
  · rw [if_pos c2] at H
    have c2b0 : decide (a0 < 1) = true := decide_eq_true c2
    clear c2
    obtain rfl := Option.some.inj H
    go_enter Tryd.func26, Tryd.ntmps26
    go_wp2
    go_ret
    exact ⟨by first | rfl | (simp; done) | (simp [*]; done), by repeat (first | exact Drawn0.refl _ | apply Drawn0.step)⟩
  · rw [if_neg c2] at H
    have c2b0 : decide (a0 < 1) = false := decide_eq_false c2
    clear c2
    have H' := Aside0.mk H
    clear H
    go_enter Tryd.func26, Tryd.ntmps26
    go_wp2
    go_loopg [0, 3] k (fun kq v0 v3 w' => ∃ (x0_1 : Int) (x3_1 : Int), v0 = .int .i64 x0_1 ∧ v3 = .int .i64 x3_1 ∧ Aside0 (annalsref14_Most.l0 kq x0_1 x3_1 = some r) ∧ Aside0 (kq ≤ k) ∧ Drawn0 w w')
    case atStart => exact ⟨(a0), (2), (by first | rfl | (simp; done) | (simp [*]; done)), (by first | rfl | (simp; done) | (simp [*]; done)), H', ⟨Nat.le_refl _⟩, by repeat (first | exact Drawn0.refl _ | apply Drawn0.step)⟩
    case round =>
      clear H'
      try clear c2
      try clear c2b0
      try clear p2
      obtain ⟨x0_1, x3_1, rfl, rfl, HA, HK1, ⟨m1, rfl⟩⟩ := hrel
      cases gk with
      | zero => exact absurd HA.out (by simp [annalsref14_Most.l0])
      | succ k1 =>
        have H := HA.out
        clear HA
        simp only [annalsref14_Most.l0] at H
        by_cases c3 : x0_1 > 1
        · rw [if_pos c3] at H
          have c3b0 : decide (1 < x0_1) = true := decide_eq_true c3
          clear c3
          have H' := Aside0.mk H
          clear H
          go_wp2
          go_roundg k1
          case measure => have := HK1.out; omega
          case rel => exact ⟨(wrap64 (Int.tdiv x0_1 2)), (wrap64 (x3_1 + 2)), (by first | rfl | (simp; done) | (simp [*]; done)), (by first | rfl | (simp; done) | (simp [*]; done)), H', ⟨by have := HK1.out; omega⟩, by repeat (first | exact Drawn0.refl _ | apply Drawn0.step)⟩
        · rw [if_neg c3] at H
          have c3b0 : decide (1 < x0_1) = false := decide_eq_false c3
          clear c3
          obtain rfl := Option.some.inj H
          go_wp2
          go_ret
          exact ⟨by first | rfl | (simp; done) | (simp [*]; done), by repeat (first | exact Drawn0.refl _ | apply Drawn0.step)⟩

end Go.Proofs.YtbedgjjiinhpkaaDoor.P
