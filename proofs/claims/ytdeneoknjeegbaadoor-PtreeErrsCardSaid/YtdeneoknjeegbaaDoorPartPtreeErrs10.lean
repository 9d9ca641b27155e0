/- Lemmas of this claim, part 10. -/
import Derived.Test.YtdeneoknjeegbaaDoorPartPtreeErrs9
import Derived.Test.YtdeneoknjeegbaaDoorPartPtreeErrs1
import Derived.Test.YtdeneoknjeegbaaDoorPartPtreeErrs5
import Derived.Laws.BitsAllLaws
set_option linter.unusedVariables false
set_option linter.unusedSimpArgs false
section
namespace Go.Proofs.YtdeneoknjeegbaaDoor.P
open Go.RowKit YtdeneoknjeegbaaDoorW.PrintWords YtdeneoknjeegbaaDoorW.PrintLast YtdeneoknjeegbaaDoorW.PrintMore
theorem infoB : (Tryd.prog.info? 5).map (fun i => (i.zero, i.size, i.bytes)) = some (some (.int .u8 0), 1, 1) := by kernel_rfl
theorem cut0_run (A : Option Addr) (n c : Nat) (h : n <= c) (W : World) : (Instr.slice 31 (.slice A n c) none (some (.int .i64 0)) none).run Tryd.prog W = .ok (.slice A 0 c) W := by
  obtain ⟨i0, hi0, hzz⟩ := Option.map_eq_some_iff.1 infoB
  simp only [Prod.mk.injEq] at hzz
  have := (print_take_of (P := Tryd.prog) (Value.int .u8) 0 31 5 .i64 Tryd.underlying31 hi0 hzz.2.1 A c (List.replicate n 0) (0 : Int) (by omega) (by simp) (by simpa using h)).1 W
  simpa using this
set_option maxHeartbeats 4000000 in
set_option maxRecDepth 100000 in
theorem grow_calls (n : Int) (w : World) (h1 : 1 <= n) (h2 : n <= 1000000000000) :
    Calls Tryd.prog 99 #[.slice none 0 0, .int .i64 n] w fun e w' => ∃ v0_ : Value, e = .returned v0_ /\ Kd.R (Kd.int .u8) 5 w' w.heap.size (fun _ => True) v0_ [] /\ Below w.heap.size w w' := by
  have d1 : decide (n < 0) = false := decide_eq_false (by omega)
  have d2 : decide (0 < n) = true := decide_eq_true (by omega)
  have hw : wrap64 n = n := wrap64_id _ (by omega)
  have hc0 : ∀ W : World, (Instr.slice 31 (.slice none 0 0) none (some (.int .i64 0)) none).run Tryd.prog W = .ok (.slice none 0 0) W := fun W => cut0_run none 0 0 (Nat.le_refl _) W
  have HN := z_ (And.intro h1 h2)
  clear h1 h2
  go_enter Tryd.func99, Tryd.ntmps99
  go_wp2_with ((at_builtin; go_must (refine Kd.R_append_zeros (Kd.int .u8) (w0 := w) w.heap.size rfl (.tmp 20) (.tmp 21) 31 3 5 (.int .u8 0) 1 rfl Tryd.underlying31 Tryd.underlying3 infoB rfl (by decide) (by omega) (.slice none 0 0) [] (0 : Int) n (fun _ => True) rfl (congrArg (Value.int .i64) hw) ?aZ ?aF ?aO ?aN ?aB ?aS ?aL ?_; (case aZ => rfl); (case aF => exact (fun _ _ => trivial)); (case aO => exact Kd.R_nil _ _ _ _ _); (case aN => (have := HN.out; omega)); (case aB => exact Below.refl _ _); (case aS => exact Nat.le_refl _); (case aL => (have := HN.out; simp; omega)); intro v1 w1 hR1 hb1 hg1 hat1; obtain ⟨A', c', e'⟩ := Kd.R_slice hR1; subst e'; obtain ⟨m1, hm1⟩ : ∃ m, m = ([] ++ List.replicate n.toNat (0 : Int)).length := ⟨_, rfl⟩; rw [<- hm1] at hR1; rw [<- hm1]; have hmc := (Kd.R_reads' hR1).2.1; have hcut : ∀ W : World, (Instr.slice 31 (.slice A' m1 c') none (some (.int .i64 0)) none).run Tryd.prog W = .ok (.slice A' 0 c') W := (fun W => cut0_run A' m1 c' hmc W); have HR1 := z_ hR1; have HB1 := z_ hb1; clear hm1 hR1 hb1 hg1 hat1 hmc)))
  go_ret
  exact ⟨_, rfl, Kd.R_take HR1.out (m := 0) (Nat.zero_le _), HB1.out⟩
def Two (w : World) (g : Nat) (v1 v2 : Value) : Prop := w.heap[g]? = some (.cells [v1, v2].toArray 31 (0, 0))
theorem Two.below {w w1 : World} {g : Nat} {v1 v2 : Value} (h : Two w g v1 v2) (hb : Below w.heap.size w w1) : Two w1 g v1 v2 := blk_below h hb
theorem Two.cells {w : World} {g : Nat} {v1 v2 : Value} (h : Two w g v1 v2) : w.cell? ⟨g, 0, none⟩ = some v1 /\ w.cell? ⟨g, 1, none⟩ = some v2 := by
  have c0 := blk_cell h 0
  have c1 := blk_cell h 1
  simp at c0 c1
  exact ⟨c0, c1⟩
set_option maxHeartbeats 8000000 in
set_option maxRecDepth 100000 in
theorem concat2_calls {w : World} (g : Nat) (A1 A2 : Option Addr) (c1 c2 : Nat) (l1 l2 : List Int) (hg : Two w g (.slice A1 l1.length c1) (.slice A2 l2.length c2)) (h1 : Kd.C (Kd.int .u8) w A1 l1.length l1) (h2 : Kd.C (Kd.int .u8) w A2 l2.length l2)
    (hl1 : 1 <= l1.length) (hl : l1.length + l2.length <= 100000000000) :
    Calls Tryd.prog 85 #[.slice (some ⟨g, 0, none⟩) 2 2] w fun e w' => ∃ v0_ : Value, e = .returned v0_ /\ Kd.R (Kd.int .u8) 5 w' w.heap.size (fun _ => True) v0_ (l1 ++ l2) /\ Below w.heap.size w w' := by
  have HG := z_ hg
  have H1 := z_ h1
  have H2 := z_ h2
  obtain ⟨n1, hn1⟩ : ∃ n1, n1 = l1.length := ⟨_, rfl⟩
  obtain ⟨n2, hn2⟩ : ∃ n2, n2 = l2.length := ⟨_, rfl⟩
  have HN := z_ (show n1 = l1.length /\ n2 = l2.length /\ 1 <= n1 /\ n1 + n2 <= 100000000000 from ⟨hn1, hn2, by omega, by omega⟩)
  rw [<- hn1, <- hn2] at hg
  have HG := z_ hg
  clear hg h1 h2 hl1 hl hn1 hn2
  go_enter Tryd.func85, Tryd.ntmps85
  go_wp2_with fail
  go_loopw [3, 11] (fun v3 v11 wr => ∃ k : Nat, k <= 2 /\ v11 = .int .i64 (k : Int) /\ v3 = .int .i64 (if k = 0 then 0 else if k = 1 then (n1 : Int) else (n1 : Int) + (n2 : Int)) /\ Aside0 (Below w.heap.size w wr)) (fun _ v11 _ => 2 - (intOf v11).toNat)
  case atStart => exact ⟨0, by omega, rfl, rfl, ⟨Below.refl _ _⟩⟩
  case round =>
    obtain ⟨k, hk, rfl, rfl, HB⟩ := hrel
    obtain ⟨q0, q1⟩ := (HG.out.below HB.out).cells
    have hnn := HN.out
    have hw1 : wrap64 (0 + (n1 : Int)) = (n1 : Int) := by rw [wrap64_id _ (by omega)]; omega
    have hw2 : wrap64 ((n1 : Int) + (n2 : Int)) = (n1 : Int) + (n2 : Int) := by rw [wrap64_id _ (by omega)]
    have hw3 : wrap64 ((n1 : Int)) = (n1 : Int) := by rw [wrap64_id _ (by omega)]
    have d1 : decide ((n1 : Int) < 0) = false := decide_eq_false (by omega)
    have d2 : decide ((n1 : Int) + (n2 : Int) < 0) = false := decide_eq_false (by omega)
    have HW := z_ hw2
    clear hnn
    obtain rfl | rfl | rfl : k = 0 \/ k = 1 \/ k = 2 := by omega
    · go_wp2_with fail
      exact ⟨⟨1, by omega, rfl, by rw [hw3]; rfl, HB⟩, by simp [intOf]⟩
    · go_wp2_with fail
      exact ⟨⟨2, by omega, rfl, by rw [hw2]; rfl, HB⟩, by simp [intOf]⟩
    · clear hk q0 q1
      go_wp2_with fail
      refine (grow_calls ((n1 : Int) + (n2 : Int)) wr (by have := HN.out; omega) (by have := HN.out; omega)).mono ?_
      rintro e w2 ⟨v, rfl, hR, hb⟩
      obtain ⟨A, c, rfl⟩ := Kd.R_slice hR
      have HB2 := z_ (below_step HB.out hb)
      have HR2 := z_ (Kd.R_lower hR HB.out.size)
      clear hR hb HB hw1 hw2 hw3 d1 d2
      go_wp2_with fail
      go_loopw [6, 27] (fun v6 v27 wq => ∃ (k : Nat) (A : Option Addr) (n c : Nat), k <= 2 /\ v27 = .int .i64 (k : Int) /\ v6 = .slice A n c /\ Aside0 (Kd.R (Kd.int .u8) 5 wq w.heap.size (fun _ => True) (.slice A n c) (if k = 0 then [] else if k = 1 then l1 else l1 ++ l2)) /\ Aside0 (Below w.heap.size w wq)) (fun _ v27 _ => 2 - (intOf v27).toNat)
      case atStart => exact ⟨0, A, 0, c, by omega, rfl, rfl, HR2, HB2⟩
      case round =>
        clear HR2 HB2
        obtain ⟨k, A, n, c, hk, rfl, rfl, HR, HB⟩ := hrel
        obtain ⟨q0, q1⟩ := (HG.out.below HB.out).cells
        obtain rfl | rfl | rfl : k = 0 \/ k = 1 \/ k = 2 := by omega
        · replace HR := z_ (show Kd.R (Kd.int .u8) 5 _ w.heap.size (fun _ => True) (.slice A n c) ([] : List Int) from HR.out)
          go_wp2_with ((at_builtin; go_must (refine Kd.R_append_rows (Kd.int .u8) (w0 := w) w.heap.size rfl (.tmp 31) (.tmp 32) 31 5 (.int .u8 0) 1 rfl Tryd.underlying31 infoB rfl (by decide) (by omega) (.slice A n c) ([] : List Int) l1 A1 n1 c1 (fun _ => True) (fun _ => False) rfl rfl ?aO ?aR (fun _ _ h => h) (fun _ h => h.elim) ?aF ?aB ?aS ?aL ?_; (case aO => exact HR.out); (case aR => exact (by have := Kd.C_below H1.out HB.out; rw [<- HN.out.1] at this; exact this)); (case aF => exact (fun _ _ => trivial)); (case aB => exact HB.out); (case aS => exact HB.out.size); (case aL => (have := HN.out; simp; omega)); intro v1 w1 hR1 hb1 hg1 hat1; obtain ⟨A', c', e'⟩ := Kd.R_slice hR1; subst e'; obtain ⟨m1, hm1⟩ : ∃ m, m = (([] : List Int) ++ l1).length := ⟨_, rfl⟩; rw [<- hm1] at hR1; rw [<- hm1]; have HR1 := z_ hR1; have HB1 := z_ hb1; clear hm1 hR1 hb1 hg1 hat1)))
          exact ⟨⟨1, A', m1, c', by omega, rfl, rfl, HR1, HB1⟩, by simp [intOf]⟩
        · replace HR := z_ (show Kd.R (Kd.int .u8) 5 _ w.heap.size (fun _ => True) (.slice A n c) l1 from HR.out)
          go_wp2_with ((at_builtin; go_must (refine Kd.R_append_rows (Kd.int .u8) (w0 := w) w.heap.size rfl (.tmp 31) (.tmp 32) 31 5 (.int .u8 0) 1 rfl Tryd.underlying31 infoB rfl (by decide) (by omega) (.slice A n c) l1 l2 A2 n2 c2 (fun _ => True) (fun _ => False) rfl rfl ?aO ?aR (fun _ _ h => h) (fun _ h => h.elim) ?aF ?aB ?aS ?aL ?_; (case aO => exact HR.out); (case aR => exact (by have := Kd.C_below H2.out HB.out; rw [<- HN.out.2.1] at this; exact this)); (case aF => exact (fun _ _ => trivial)); (case aB => exact HB.out); (case aS => exact HB.out.size); (case aL => (have := HN.out; simp; omega)); intro v1 w1 hR1 hb1 hg1 hat1; obtain ⟨A', c', e'⟩ := Kd.R_slice hR1; subst e'; obtain ⟨m1, hm1⟩ : ∃ m, m = (l1 ++ l2).length := ⟨_, rfl⟩; rw [<- hm1] at hR1; rw [<- hm1]; have HR1 := z_ hR1; have HB1 := z_ hb1; clear hm1 hR1 hb1 hg1 hat1)))
          exact ⟨⟨2, A', m1, c', by omega, rfl, rfl, HR1, HB1⟩, by simp [intOf]⟩
        · clear hk q0 q1
          go_wp2_with fail
          go_ret
          exact ⟨_, rfl, HR.out, HB.out⟩
attribute [local go_sem] max2_int min2_int max_two min_two
set_option maxHeartbeats 4000000 in
set_option maxRecDepth 100000 in
theorem key_calls (A0 : Option Addr) (c0 : Nat) (l0 : List Int) (w : World) (h0 : Kd.C (Kd.int .u8) w A0 l0.length l0) (hc0 : l0.length <= c0) :
    Calls Tryd.prog 55 #[.slice A0 l0.length c0] w fun e w' => ∃ v0_ : Value, e = .returned v0_ /\ Kd.R (Kd.int .u8) 5 w' w.heap.size (fun _ => True) v0_ (keyB l0) /\ Below w.heap.size w w' := by
  have H0 := z_ h0
  obtain ⟨n, hn⟩ : ∃ n, n = min l0.length 255 := ⟨_, rfl⟩
  have e1 : (if 255 < l0.length then (255 : Int) else (l0.length : Int)) = (n : Int) := by split <;> omega
  have e2 : (if 255 < (l0.length : Int) then (255 : Int) else (l0.length : Int)) = (n : Int) := by split <;> omega
  have e3 : IntKind.u8.wrap (n : Int) = (n : Int) := by rw [IntKind.wrap_u8]; omega
  obtain ⟨i0, hi0, hzz⟩ := Option.map_eq_some_iff.1 infoB
  simp only [Prod.mk.injEq] at hzz
  have hlt : (l0.take n).length = n := by rw [List.length_take]; omega
  have hcut : ∀ W : World, (Instr.slice 31 (.slice A0 l0.length c0) none (some (.int .i64 (n : Int))) none).run Tryd.prog W = .ok (.slice A0 n c0) W := fun W => by
    have := (print_take_of (P := Tryd.prog) (Value.int .u8) 0 31 5 .i64 Tryd.underlying31 hi0 hzz.2.1 A0 c0 l0 (n : Int) (by omega) (by omega) hc0).1 W
    rw [Int.toNat_natCast, hlt] at this
    exact this
  have HT := z_ (show Kd.C (Kd.int .u8) w A0 (l0.take n).length (l0.take n) from Kd.C_take h0 (m := n) (by omega))
  have HN := z_ (And.intro hn hlt)
  clear h0 hc0 hn hi0 hzz hlt i0
  go_enter Tryd.func55, Tryd.ntmps55
  go_wp2_with fail
  obtain ⟨w2, hw2⟩ : ∃ w2, w2 = (w.alloc (.cells #[.int .u8 (n : Int)] 5)).alloc (.cells #[.slice (some ⟨w.heap.size, 0, none⟩) 1 1, .slice A0 n c0] 31) := ⟨_, rfl⟩
  rw [<- hw2]
  have hb12 : Below (w.alloc (.cells #[.int .u8 (n : Int)] 5)).heap.size (w.alloc (.cells #[.int .u8 (n : Int)] 5)) w2 := by rw [hw2]; exact below_alloc (Below.refl _ _) _
  have HB2 := z_ (show Below w.heap.size w w2 from by rw [hw2]; exact below_alloc (below_alloc (Below.refl _ _) _) _)
  have hR := Kd.R_below (litB_R (w := w) w.heap.size (Nat.le_refl _) (n : Int)) hb12
  have hT : Two w2 (w.heap.size + 1) (.slice (some ⟨w.heap.size, 0, none⟩) 1 1) (.slice A0 n c0) := by
    have := heap_alloc_new (w.alloc (.cells #[.int .u8 (n : Int)] 5)) (.cells #[.slice (some ⟨w.heap.size, 0, none⟩) 1 1, .slice A0 n c0] 31)
    rw [hw2]
    simpa [Two] using this
  clear hw2 hb12
  refine (concat2_calls (w.heap.size + 1) (some ⟨w.heap.size, 0, none⟩) A0 1 c0 [(n : Int)] (l0.take n) (by rw [HN.out.2]; exact hT) (Kd.R_reads' hR).2.2 (Kd.C_below HT.out HB2.out) (by simp) (by rw [HN.out.2]; have := HN.out.1; simp; omega)).mono ?_
  rintro e w3 ⟨v, rfl, hR3, hb3⟩
  have HR3 := z_ (Kd.R_lower hR3 HB2.out.size)
  have HB3 := z_ (below_step HB2.out hb3)
  clear hR hT hR3 hb3
  go_wp2_with fail
  go_ret
  have he : [(n : Int)] ++ l0.take n = keyB l0 := by unfold keyB; rw [HN.out.1, take255]; rfl
  exact ⟨_, rfl, by rw [<- he]; exact HR3.out, HB3.out⟩
end Go.Proofs.YtdeneoknjeegbaaDoor.P
end
section
namespace Go.Proofs.YtdeneoknjeegbaaDoor.P
open Go.RowKit YtdeneoknjeegbaaDoorW.PrintWords YtdeneoknjeegbaaDoorW.PrintLast YtdeneoknjeegbaaDoorW.PrintMore
attribute [local go_sem] max2_int min2_int max_two min_two max_three min_three max_four min_four
def bits_Begins.f (l0 : List Int) (l1 : List Int) (a2 : Int) : Option (Bool) := if a2 < 1 then (some true) else (if a2 <= (wrap64 (8 * (mn (l0.length : Int) (l1.length : Int)))) then ((bits_Common.f l0 l1).bind fun t358 => (some (decide (t358 >= a2)))) else (some false))
set_option maxHeartbeats 8000000 in
set_option maxRecDepth 100000 in
theorem bits_Begins.calls (A0 : Option Addr) (c0 : Nat) (l0 : List Int) (A1 : Option Addr) (c1 : Nat) (l1 : List Int) (a2 : Int) (r : Bool) (w : World) (hr0 : Kd.C (Kd.int .u8) w A0 l0.length l0) (hc0 : l0.length <= c0) (hr1 : Kd.C (Kd.int .u8) w A1 l1.length l1) (hc1 : l1.length <= c1) (h : bits_Begins.f l0 l1 a2 = some r) :
    Calls Tryd.prog 83 #[.slice A0 l0.length c0, .slice A1 l1.length c1, .int .i64 a2] w fun e w' => e = .returned (.bool r) /\ Below w.heap.size w w' := by
  have HR0 := z_ hr0
  have HC0 := z_ hc0
  clear hr0 hc0
  have HR1 := z_ hr1
  have HC1 := z_ hc1
  clear hr1 hc1
  have HB := z_ (Below.refl w.heap.size w)
  have H : (if a2 < 1 then (some true) else (if a2 <= (wrap64 (8 * (mn (l0.length : Int) (l1.length : Int)))) then ((bits_Common.f l0 l1).bind fun t358 => (some (decide (t358 >= a2)))) else (some false))) = some r := h
  clear h
  by_cases c4 : a2 < 1
  · rw [if_pos c4] at H
    have c4b0 : decide (a2 < 1) = true := decide_eq_true c4
    clear c4
    obtain rfl := Option.some.inj H
    go_enter Tryd.func83, Tryd.ntmps83
    go_wp2
    go_ret
    exact ⟨by first | rfl | (simp [errW_none, errW_some] <;> rfl) | (simp [*, errW_none, errW_some] <;> rfl), by repeat (first | (with_reducible first | exact HB.out | apply below_alloc | apply pw_below_drewN | apply below_drew1) | exact HB.out)⟩
  · rw [if_neg c4] at H
    have c4b0 : decide (a2 < 1) = false := decide_eq_false c4
    clear c4
    obtain ⟨ji5, hji5⟩ : ∃ j_ : Int, (mn (l0.length : Int) (l1.length : Int)) = j_ := ⟨_, rfl⟩
    replace H : (if a2 <= (wrap64 (8 * (ji5))) then ((bits_Common.f l0 l1).bind fun t358 => (some (decide (t358 >= a2)))) else (some false)) = some r := by first | (rw [hji5] at H; exact H) | (simp only [hji5] at H ⊢; exact H)
    (try (have hji5l : 0 <= ji5 := by (rw [<- hji5]; unfold mn; (repeat' split) <;> omega)))
    (try (have hji5m : 0 <= ji5 := by omega))
    have hji5_ : (if (l1.length : Int) < (l0.length : Int) then (l1.length : Int) else (l0.length : Int)) = ji5 := hji5
    (try (have hji5n_ : (if l1.length < l0.length then (l1.length : Int) else (l0.length : Int)) = ji5 := (by rw [<- hji5_]; split <;> split <;> omega)))
    by_cases c6 : a2 <= (wrap64 (8 * (ji5)))
    · rw [if_pos c6] at H
      have c6b0 : decide (a2 <= (wrap64 (8 * (ji5)))) = true := decide_eq_true c6
      clear c6
      replace H := Option.bind_eq_some_iff.mp H
      obtain ⟨t358, A70, H⟩ := H
      replace H : (some (decide (t358 >= a2))) = some r := H
      have A7 := z_ A70
      clear A70
      obtain rfl := Option.some.inj H
      go_enter Tryd.func83, Tryd.ntmps83
      go_wp2_with (first | (go_at_call 86; (with_reducible refine (bits_Common.calls _ _ l0 _ _ l1 t358 _ ?side1 ?side2 ?side3 ?side4 A7.out).mono ?_); (case side1 => repeat (first | exact HR0.out | (with_reducible refine Kd.C_alloc ?_ _) | (with_reducible refine Kd.C_drewN ?_ _) | (with_reducible refine Kd.C_drew ?_))); (case side2 => exact HC0.out); (case side3 => repeat (first | exact HR1.out | (with_reducible refine Kd.C_alloc ?_ _) | (with_reducible refine Kd.C_drewN ?_ _) | (with_reducible refine Kd.C_drew ?_))); (case side4 => exact HC1.out); rintro e w8 ⟨rfl, hb⟩; have n0_ := z_ (below_step (by repeat (first | (with_reducible first | exact HB.out | apply below_alloc | apply pw_below_drewN | apply below_drew1) | exact HB.out)) hb); clear HB; have HB := n0_; clear n0_; (try clear hb); (try clear hb2); (try clear hk); (try clear hi)))
      go_ret
      exact ⟨by first | rfl | (simp [errW_none, errW_some] <;> rfl) | (simp only [<- hji5]; first | rfl | (simp [errW_none, errW_some] <;> rfl)) | (simp [*, errW_none, errW_some] <;> rfl), by repeat (first | (with_reducible first | exact HB.out | apply below_alloc | apply pw_below_drewN | apply below_drew1) | exact HB.out)⟩
    · rw [if_neg c6] at H
      have c6b0 : decide (a2 <= (wrap64 (8 * (ji5)))) = false := decide_eq_false c6
      clear c6
      obtain rfl := Option.some.inj H
      go_enter Tryd.func83, Tryd.ntmps83
      go_wp2
      go_ret
      exact ⟨by first | rfl | (simp [errW_none, errW_some] <;> rfl) | (simp only [<- hji5]; first | rfl | (simp [errW_none, errW_some] <;> rfl)) | (simp [*, errW_none, errW_some] <;> rfl), by repeat (first | (with_reducible first | exact HB.out | apply below_alloc | apply pw_below_drewN | apply below_drew1) | exact HB.out)⟩
def bits_Bit.j0 : Nat -> List Int -> Int -> Bool -> Option (Int)
  | 0, _, _, _ => none
  | k + 1, x0, x1, x13 => if x13 = true then (some (-1)) else (if 0 <= (x1 / 8) then (if (x1 / 8) < (x0.length : Int) then (if 0 <= (Go.bits .and .i64 x1 7) then (if (Go.bits .and .u8 (rd x0 (x1 / 8)) (shr .u8 128 (Go.bits .and .i64 x1 7))) = 0 then (some 0) else (some 1)) else (none)) else (none)) else (none))
def bits_Bit.f (k : Nat) (l0 : List Int) (a1 : Int) : Option (Int) := if a1 < 0 then (bits_Bit.j0 k l0 a1 true) else (bits_Bit.j0 k l0 a1 (decide ((a1 / 8) >= (l0.length : Int))))
theorem bits_Bit.mono_l : ∀ k, (∀ y0 y1 y2, LeO (bits_Bit.j0 k y0 y1 y2) (bits_Bit.j0 (k + 1) y0 y1 y2))
  | 0 => fun _ _ _ r h => by simp [bits_Bit.j0] at h
  | k + 1 => by
    have ih0 := bits_Bit.mono_l k
    · intro y0 y1 y2
      unfold bits_Bit.j0
      repeat' first
      | (with_reducible exact ih0 _ _ _)
      | (with_reducible exact LeO.refl _)
      | (with_reducible exact LeO.none _)
      | (with_reducible refine LeO.ite ?_ ?_)
      | (with_reducible refine LeO.bind ?_ (fun _ => ?_))
      | exact ih0 _ _ _
      | exact LeO.none _
      | refine LeO.ite ?_ ?_
      | refine LeO.bind ?_ (fun _ => ?_)
theorem bits_Bit.mono : ∀ a0 a1 k, LeO (bits_Bit.f k a0 a1) (bits_Bit.f (k + 1) a0 a1) := by
  intro a0 a1 k
  have ih0 := bits_Bit.mono_l k
  unfold bits_Bit.f
  repeat' first
      | (with_reducible exact ih0 _ _ _)
      | (with_reducible exact LeO.refl _)
      | (with_reducible exact LeO.none _)
      | (with_reducible refine LeO.ite ?_ ?_)
      | (with_reducible refine LeO.bind ?_ (fun _ => ?_))
      | exact ih0 _ _ _
      | exact LeO.none _
      | refine LeO.ite ?_ ?_
      | refine LeO.bind ?_ (fun _ => ?_)
set_option maxHeartbeats 8000000 in
set_option maxRecDepth 100000 in
theorem bits_Bit.calls (k : Nat) (A0 : Option Addr) (c0 : Nat) (l0 : List Int) (a1 : Int) (r : Int) (w : World) (hr0 : Kd.C (Kd.int .u8) w A0 l0.length l0) (hc0 : l0.length <= c0) (h : bits_Bit.f k l0 a1 = some r) :
    Calls Tryd.prog 58 #[.slice A0 l0.length c0, .int .i64 a1] w fun e w' => e = .returned (.int .i64 r) /\ Drawn0 w w' := by
  have HR0 := z_ hr0
  have HC0 := z_ hc0
  clear hr0 hc0
  have H : (if a1 < 0 then (bits_Bit.j0 k l0 a1 true) else (bits_Bit.j0 k l0 a1 (decide ((a1 / 8) >= (l0.length : Int))))) = some r := h
  clear h
  have HC3 := z_ H
  clear H
  go_enter Tryd.func58, Tryd.ntmps58
  go_upto_region 1 with (fail)
  repeat (go_quiet (fail); go_upto_region 1 with (fail))
  go_cut [13] (fun v13 wc => ∃ (kq : Nat) (x13_2 : Bool), v13 = .bool x13_2 /\ Aside0 (bits_Bit.j0 kq l0 a1 x13_2 = some r) /\ Aside0 (kq <= k) /\ Drawn0 w wc)
  case first =>
    have H := HC3.out
    clear HC3
    by_cases c4 : a1 < 0
    · rw [if_pos c4] at H
      have c4b0 : decide (a1 < 0) = true := decide_eq_true c4
      clear c4
      (first | rw [c4b0] | (simp only [i64_w, i32_w]; rw [c4b0]) | skip)
      have H' := z_ H
      clear H
      go_wp2
      repeat (go_quiet (fail); try go_wp2)
      go_meet
      case rel => exact ⟨_, (true), (by first | rfl | (simp; done) | (simp [*]; done)), H', ⟨by first | omega | exact Nat.le_refl _⟩, by repeat (first | exact Drawn0.refl _ | apply Drawn0.step)⟩
    · rw [if_neg c4] at H
      have c4b0 : decide (a1 < 0) = false := decide_eq_false c4
      clear c4
      (first | rw [c4b0] | (simp only [i64_w, i32_w]; rw [c4b0]) | skip)
      have H' := z_ H
      clear H
      go_wp2
      repeat (go_quiet (fail); try go_wp2)
      go_meet
      case rel => exact ⟨_, (decide ((a1 / 8) >= (l0.length : Int))), (by first | rfl | (simp; done) | (simp [*]; done)), H', ⟨by first | omega | exact Nat.le_refl _⟩, by repeat (first | exact Drawn0.refl _ | apply Drawn0.step)⟩
  case rest =>
    clear HC3
    try clear p2
    try clear c4
    try clear c4b0
    obtain ⟨kq, x13_2, rfl, HA, HJ2, ⟨mc2, rfl⟩⟩ := hcut
    cases kq with
    | zero => exact absurd HA.out (by simp [bits_Bit.j0])
    | succ kj2 =>
      have H := HA.out
      clear HA
      simp only [bits_Bit.j0] at H
      by_cases c5 : x13_2 = true
      · subst c5
        have H1 : (some (-1)) = some r := by rw [if_pos rfl] at H; exact H
        clear H
        have H := H1
        clear H1
        obtain rfl := Option.some.inj H
        go_wp2
        repeat (go_quiet (fail); try go_wp2)
        go_ret
        exact ⟨by first | rfl | (simp; done) | (simp [*]; done), by repeat (first | exact Drawn0.refl _ | apply Drawn0.step)⟩
      · replace c5 := Bool.eq_false_iff.mpr c5
        subst c5
        have H1 : (if 0 <= (a1 / 8) then (if (a1 / 8) < (l0.length : Int) then (if 0 <= (Go.bits .and .i64 a1 7) then (if (Go.bits .and .u8 (rd l0 (a1 / 8)) (shr .u8 128 (Go.bits .and .i64 a1 7))) = 0 then (some 0) else (some 1)) else (none)) else (none)) else (none)) = some r := by rw [if_neg (show ¬ (false = true) by decide)] at H; exact H
        clear H
        have H := H1
        clear H1
        obtain ⟨ji6, hji6⟩ : ∃ j_ : Int, (a1 / 8) = j_ := ⟨_, rfl⟩
        replace H : (if 0 <= (ji6) then (if (ji6) < (l0.length : Int) then (if 0 <= (Go.bits .and .i64 a1 7) then (if (Go.bits .and .u8 (rd l0 (ji6)) (shr .u8 128 (Go.bits .and .i64 a1 7))) = 0 then (some 0) else (some 1)) else (none)) else (none)) else (none)) = some r := by first | (rw [hji6] at H; exact H) | (simp only [hji6] at H ⊢; exact H)
        by_cases c7 : 0 <= (ji6)
        · rw [if_pos c7] at H
          have c7b0 : decide (0 <= (ji6)) = true := decide_eq_true c7
          clear c7
          by_cases c8 : (ji6) < (l0.length : Int)
          · rw [if_pos c8] at H
            have c8b0 : decide ((ji6) < (l0.length : Int)) = true := decide_eq_true c8
            clear c8
            by_cases c9 : 0 <= (Go.bits .and .i64 a1 7)
            · rw [if_pos c9] at H
              have c9b0 := eq_true c9
              have c9b1 : decide (0 <= (Go.bits .and .i64 a1 7)) = true := decide_eq_true c9
              clear c9
              obtain ⟨ji10, hji10⟩ : ∃ j_ : Int, (shr .u8 128 (Go.bits .and .i64 a1 7)) = j_ := ⟨_, rfl⟩
              replace H : (if (Go.bits .and .u8 (rd l0 (ji6)) (ji10)) = 0 then (some 0) else (some 1)) = some r := by first | (rw [hji10] at H; exact H) | (simp only [hji10] at H ⊢; exact H)
              have hji10_ : (128 / 2 ^ min (Go.bits .and .i64 a1 7).toNat 8) = ji10 := hji10
              have hji10z : (Go.bits .and .i64 a1 7) <= 8 -> (128 / 2 ^ (Go.bits .and .i64 a1 7).toNat) = ji10 := shr_small hji10
              by_cases c11 : (Go.bits .and .u8 (rd l0 (ji6)) (ji10)) = 0
              · rw [if_pos c11] at H
                have c11b0 : ((Go.bits .and .u8 (rd l0 (ji6)) (ji10)) == 0) = true := beq_iff_eq.mpr c11
                have c11b1 : ((Go.bits .and .u8 (rd l0 (ji6)) (ji10)) != 0) = false := bne_eq_false_iff_eq.mpr c11
                clear c11
                obtain rfl := Option.some.inj H
                have p359 : 0 <= ((ji6) : Int) := of_decide_eq_true (by first | (with_reducible assumption) | assumption)
                have q359 : (ji6) < (l0.length : Int) := of_decide_eq_true (by first | (with_reducible assumption) | assumption)
                obtain ⟨ad359, e359, hx359_0⟩ := Kd.at_int HR0.out (ji6) p359 q359
                cases e359
                replace p359 := eq_true p359
                replace q359 := eq_true q359
                go_wp2
                repeat (go_quiet (fail); try go_wp2)
                go_ret
                exact ⟨by first | rfl | (simp; done) | (simp only [<- hji6, <- hji10] <;> (first | rfl | simp)) | (simp [*]; done), by repeat (first | exact Drawn0.refl _ | apply Drawn0.step)⟩
              · rw [if_neg c11] at H
                have c11b0 : ((Go.bits .and .u8 (rd l0 (ji6)) (ji10)) == 0) = false := beq_eq_false_iff_ne.mpr c11
                have c11b1 : ((Go.bits .and .u8 (rd l0 (ji6)) (ji10)) != 0) = true := bne_iff_ne.mpr c11
                obtain rfl := Option.some.inj H
                have p359 : 0 <= ((ji6) : Int) := of_decide_eq_true (by first | (with_reducible assumption) | assumption)
                have q359 : (ji6) < (l0.length : Int) := of_decide_eq_true (by first | (with_reducible assumption) | assumption)
                obtain ⟨ad359, e359, hx359_0⟩ := Kd.at_int HR0.out (ji6) p359 q359
                cases e359
                replace p359 := eq_true p359
                replace q359 := eq_true q359
                go_wp2
                repeat (go_quiet (fail); try go_wp2)
                go_ret
                exact ⟨by first | rfl | (simp; done) | (simp only [<- hji6, <- hji10] <;> (first | rfl | simp)) | (simp [*]; done), by repeat (first | exact Drawn0.refl _ | apply Drawn0.step)⟩
            · rw [if_neg c9] at H
              exact absurd H (by simp)
          · rw [if_neg c8] at H
            exact absurd H (by simp)
        · rw [if_neg c7] at H
          exact absurd H (by simp)
def ptree_below.f (k : Nat) (a0_0 : Bool) (l0_1 : List Int) (l0_2 : List Int) (a0_3 : Int) (a0_4 : Int) (l0_5 : List Int) (a0_6 : Int) (a0_7 : Int) (a0_8 : Int) (l0_9 : List Int) (l1 : List Int) : Option (Int) := (bits_Bit.f k l1 a0_4).bind fun t361 => (if t361 = 1 then (some a0_8) else (some a0_7))
theorem ptree_below.mono : ∀ a0 a1 a2 a3 a4 a5 a6 a7 a8 a9 a10 k, LeO (ptree_below.f k a0 a1 a2 a3 a4 a5 a6 a7 a8 a9 a10) (ptree_below.f (k + 1) a0 a1 a2 a3 a4 a5 a6 a7 a8 a9 a10) := by
  intro a0 a1 a2 a3 a4 a5 a6 a7 a8 a9 a10 k
  unfold ptree_below.f
  repeat' first
      | (with_reducible exact bits_Bit.mono _ _ _)
      | (with_reducible exact LeO.refl _)
      | (with_reducible exact LeO.none _)
      | (with_reducible refine LeO.ite ?_ ?_)
      | (with_reducible refine LeO.bind ?_ (fun _ => ?_))
      | exact bits_Bit.mono _ _ _
      | exact LeO.none _
      | refine LeO.ite ?_ ?_
      | refine LeO.bind ?_ (fun _ => ?_)
set_option maxHeartbeats 8000000 in
set_option maxRecDepth 100000 in
theorem ptree_below.calls (k : Nat) (a0_0 : Bool) (A0_1 : Option Addr) (c0_1 : Nat) (l0_1 : List Int) (A0_2 : Option Addr) (c0_2 : Nat) (l0_2 : List Int) (a0_3 : Int) (a0_4 : Int) (A0_5 : Option Addr) (c0_5 : Nat) (l0_5 : List Int) (a0_6 : Int) (a0_7 : Int) (a0_8 : Int) (A0_9 : Option Addr) (c0_9 : Nat) (l0_9 : List Int) (A1 : Option Addr) (c1 : Nat) (l1 : List Int) (r : Int) (w : World) (hr0_1 : Kd.C (Kd.int .u8) w A0_1 l0_1.length l0_1) (hc0_1 : l0_1.length <= c0_1) (hr0_2 : Kd.C (Kd.int .u8) w A0_2 l0_2.length l0_2) (hc0_2 : l0_2.length <= c0_2) (hr0_5 : Kd.C (Kd.int .u8) w A0_5 l0_5.length l0_5) (hc0_5 : l0_5.length <= c0_5) (hr0_9 : Kd.C (Kd.int .u8) w A0_9 l0_9.length l0_9) (hc0_9 : l0_9.length <= c0_9) (hr1 : Kd.C (Kd.int .u8) w A1 l1.length l1) (hc1 : l1.length <= c1) (h : ptree_below.f k a0_0 l0_1 l0_2 a0_3 a0_4 l0_5 a0_6 a0_7 a0_8 l0_9 l1 = some r) :
    Calls Tryd.prog 84 #[.agg #[.bool a0_0, .slice A0_1 l0_1.length c0_1, .slice A0_2 l0_2.length c0_2, .int .i64 a0_3, .int .i64 a0_4, .slice A0_5 l0_5.length c0_5, .int .i64 a0_6, .int .i64 a0_7, .int .i64 a0_8, .slice A0_9 l0_9.length c0_9], .slice A1 l1.length c1] w fun e w' => e = .returned (.int .i64 r) /\ Below w.heap.size w w' := by
  have hu39 := Tryd.underlying39
  have HR0_1 := z_ hr0_1
  have HC0_1 := z_ hc0_1
  clear hr0_1 hc0_1
  have HR0_2 := z_ hr0_2
  have HC0_2 := z_ hc0_2
  clear hr0_2 hc0_2
  have HR0_5 := z_ hr0_5
  have HC0_5 := z_ hc0_5
  clear hr0_5 hc0_5
  have HR0_9 := z_ hr0_9
  have HC0_9 := z_ hc0_9
  clear hr0_9 hc0_9
  have HR1 := z_ hr1
  have HC1 := z_ hc1
  clear hr1 hc1
  have HB := z_ (Below.refl w.heap.size w)
  have H : ((bits_Bit.f k l1 a0_4).bind fun t361 => (if t361 = 1 then (some a0_8) else (some a0_7))) = some r := h
  clear h
  replace H := Option.bind_eq_some_iff.mp H
  obtain ⟨t361, A30, H⟩ := H
  replace H : (if t361 = 1 then (some a0_8) else (some a0_7)) = some r := H
  have A3 := z_ A30
  clear A30
  by_cases c4 : t361 = 1
  · rw [if_pos c4] at H
    have c4b0 : (t361 == 1) = true := beq_iff_eq.mpr c4
    have c4b1 : (t361 != 1) = false := bne_eq_false_iff_eq.mpr c4
    clear c4
    obtain rfl := Option.some.inj H
    go_enter Tryd.func84, Tryd.ntmps84
    go_wp2_with (first | ((with_reducible refine gate_dst (N := 2) rfl ?_); refine box_event ?hg (N := 2) ?hd (cs := #[.bool a0_0, .slice A0_1 l0_1.length c0_1, .slice A0_2 l0_2.length c0_2, .int .i64 a0_3, .int .i64 a0_4, .slice A0_5 l0_5.length c0_5, .int .i64 a0_6, .int .i64 a0_7, .int .i64 a0_8, .slice A0_9 l0_9.length c0_9]) (t := 39) ?hr ?_; (case hd => rfl); (case hg => rfl); (case hr => first | (go_simp; done) | (go_simp; rfl)); intro gb360 hg w5 hbox hb; have n0_ := z_ (below_step (by repeat (first | (with_reducible first | exact HB.out | apply below_alloc | apply pw_below_drewN | apply below_drew1) | exact HB.out)) hb); have n1_ := z_ (hbox); have n2_ := z_ ((by rw [hg]; exact (below_size (by repeat (first | (with_reducible first | exact HB.out | apply below_alloc | apply pw_below_drewN | apply below_drew1) | exact HB.out))) : w.heap.size <= gb360)); have n3_ := z_ ((by rw [hg]; exact (below_size (by repeat (first | (with_reducible first | exact HB.out | apply below_alloc | apply pw_below_drewN | apply below_drew1) | exact HB.out))) : w.heap.size <= gb360)); clear HB; have HB := n0_; have BK360 := n1_; have GW360 := n2_; have GE360 := n3_; clear n0_ n1_ n2_ n3_; clear hb hbox hg; have hcz6_0 : w5.cell? ⟨gb360, 0, none⟩ = some (.bool a0_0) := (blk_cell BK360.out 0).trans rfl; have hcz6_1 : w5.cell? ⟨gb360, 1, none⟩ = some (.slice A0_1 l0_1.length c0_1) := (blk_cell BK360.out 1).trans rfl; have hcz6_2 : w5.cell? ⟨gb360, 2, none⟩ = some (.slice A0_2 l0_2.length c0_2) := (blk_cell BK360.out 2).trans rfl; have hcz6_3 : w5.cell? ⟨gb360, 3, none⟩ = some (.int .i64 a0_3) := (blk_cell BK360.out 3).trans rfl; have hcz6_4 : w5.cell? ⟨gb360, 4, none⟩ = some (.int .i64 a0_4) := (blk_cell BK360.out 4).trans rfl; have hcz6_5 : w5.cell? ⟨gb360, 5, none⟩ = some (.slice A0_5 l0_5.length c0_5) := (blk_cell BK360.out 5).trans rfl; have hcz6_6 : w5.cell? ⟨gb360, 6, none⟩ = some (.int .i64 a0_6) := (blk_cell BK360.out 6).trans rfl; have hcz6_7 : w5.cell? ⟨gb360, 7, none⟩ = some (.int .i64 a0_7) := (blk_cell BK360.out 7).trans rfl; have hcz6_8 : w5.cell? ⟨gb360, 8, none⟩ = some (.int .i64 a0_8) := (blk_cell BK360.out 8).trans rfl; have hcz6_9 : w5.cell? ⟨gb360, 9, none⟩ = some (.slice A0_9 l0_9.length c0_9) := (blk_cell BK360.out 9).trans rfl; have hfz6_0 := blk_frozen BK360.out 0; have hfz6_1 := blk_frozen BK360.out 1; have hfz6_2 := blk_frozen BK360.out 2; have hfz6_3 := blk_frozen BK360.out 3; have hfz6_4 := blk_frozen BK360.out 4; have hfz6_5 := blk_frozen BK360.out 5; have hfz6_6 := blk_frozen BK360.out 6; have hfz6_7 := blk_frozen BK360.out 7; have hfz6_8 := blk_frozen BK360.out 8; have hfz6_9 := blk_frozen BK360.out 9) | ((with_reducible refine gate_callee (f := 58) rfl ?_); refine goesL_ (some 8) rfl rfl Tryd.func58 (by kernel_rfl) rfl #[.slice A1 l1.length c1, .int .i64 a0_4] rfl (by (try simp only [List.map_toArray, List.map_cons, List.map_nil]); first | done | rfl | (simp only [List.length_drop, List.length_take]; rfl)) ?_; (with_reducible refine (bits_Bit.calls k _ _ l1 a0_4 t361 _ ?side1 ?side2 A3.out).mono ?_); (case side1 => repeat (first | exact (Kd.C_below HR1.out HB.out) | (with_reducible refine Kd.C_alloc ?_ _) | (with_reducible refine Kd.C_drewN ?_ _) | (with_reducible refine Kd.C_drew ?_))); (case side2 => exact HC1.out); rintro e w' ⟨rfl, ⟨nd, rfl⟩⟩; refine ⟨_, rfl, ?_⟩))
    go_ret
    exact ⟨by first | rfl | (simp [errW_none, errW_some] <;> rfl) | (simp [*, errW_none, errW_some] <;> rfl), by repeat (first | (with_reducible first | exact HB.out | apply below_alloc | apply pw_below_drewN | apply below_drew1 | refine below_set ?_ GE360.out) | exact HB.out)⟩
  · rw [if_neg c4] at H
    have c4b0 : (t361 == 1) = false := beq_eq_false_iff_ne.mpr c4
    have c4b1 : (t361 != 1) = true := bne_iff_ne.mpr c4
    obtain rfl := Option.some.inj H
    go_enter Tryd.func84, Tryd.ntmps84
    go_wp2_with (first | ((with_reducible refine gate_dst (N := 2) rfl ?_); refine box_event ?hg (N := 2) ?hd (cs := #[.bool a0_0, .slice A0_1 l0_1.length c0_1, .slice A0_2 l0_2.length c0_2, .int .i64 a0_3, .int .i64 a0_4, .slice A0_5 l0_5.length c0_5, .int .i64 a0_6, .int .i64 a0_7, .int .i64 a0_8, .slice A0_9 l0_9.length c0_9]) (t := 39) ?hr ?_; (case hd => rfl); (case hg => rfl); (case hr => first | (go_simp; done) | (go_simp; rfl)); intro gb360 hg w7 hbox hb; have n0_ := z_ (below_step (by repeat (first | (with_reducible first | exact HB.out | apply below_alloc | apply pw_below_drewN | apply below_drew1) | exact HB.out)) hb); have n1_ := z_ (hbox); have n2_ := z_ ((by rw [hg]; exact (below_size (by repeat (first | (with_reducible first | exact HB.out | apply below_alloc | apply pw_below_drewN | apply below_drew1) | exact HB.out))) : w.heap.size <= gb360)); have n3_ := z_ ((by rw [hg]; exact (below_size (by repeat (first | (with_reducible first | exact HB.out | apply below_alloc | apply pw_below_drewN | apply below_drew1) | exact HB.out))) : w.heap.size <= gb360)); clear HB; have HB := n0_; have BK360 := n1_; have GW360 := n2_; have GE360 := n3_; clear n0_ n1_ n2_ n3_; clear hb hbox hg; have hcz8_0 : w7.cell? ⟨gb360, 0, none⟩ = some (.bool a0_0) := (blk_cell BK360.out 0).trans rfl; have hcz8_1 : w7.cell? ⟨gb360, 1, none⟩ = some (.slice A0_1 l0_1.length c0_1) := (blk_cell BK360.out 1).trans rfl; have hcz8_2 : w7.cell? ⟨gb360, 2, none⟩ = some (.slice A0_2 l0_2.length c0_2) := (blk_cell BK360.out 2).trans rfl; have hcz8_3 : w7.cell? ⟨gb360, 3, none⟩ = some (.int .i64 a0_3) := (blk_cell BK360.out 3).trans rfl; have hcz8_4 : w7.cell? ⟨gb360, 4, none⟩ = some (.int .i64 a0_4) := (blk_cell BK360.out 4).trans rfl; have hcz8_5 : w7.cell? ⟨gb360, 5, none⟩ = some (.slice A0_5 l0_5.length c0_5) := (blk_cell BK360.out 5).trans rfl; have hcz8_6 : w7.cell? ⟨gb360, 6, none⟩ = some (.int .i64 a0_6) := (blk_cell BK360.out 6).trans rfl; have hcz8_7 : w7.cell? ⟨gb360, 7, none⟩ = some (.int .i64 a0_7) := (blk_cell BK360.out 7).trans rfl; have hcz8_8 : w7.cell? ⟨gb360, 8, none⟩ = some (.int .i64 a0_8) := (blk_cell BK360.out 8).trans rfl; have hcz8_9 : w7.cell? ⟨gb360, 9, none⟩ = some (.slice A0_9 l0_9.length c0_9) := (blk_cell BK360.out 9).trans rfl; have hfz8_0 := blk_frozen BK360.out 0; have hfz8_1 := blk_frozen BK360.out 1; have hfz8_2 := blk_frozen BK360.out 2; have hfz8_3 := blk_frozen BK360.out 3; have hfz8_4 := blk_frozen BK360.out 4; have hfz8_5 := blk_frozen BK360.out 5; have hfz8_6 := blk_frozen BK360.out 6; have hfz8_7 := blk_frozen BK360.out 7; have hfz8_8 := blk_frozen BK360.out 8; have hfz8_9 := blk_frozen BK360.out 9) | ((with_reducible refine gate_callee (f := 58) rfl ?_); refine goesL_ (some 8) rfl rfl Tryd.func58 (by kernel_rfl) rfl #[.slice A1 l1.length c1, .int .i64 a0_4] rfl (by (try simp only [List.map_toArray, List.map_cons, List.map_nil]); first | done | rfl | (simp only [List.length_drop, List.length_take]; rfl)) ?_; (with_reducible refine (bits_Bit.calls k _ _ l1 a0_4 t361 _ ?side1 ?side2 A3.out).mono ?_); (case side1 => repeat (first | exact (Kd.C_below HR1.out HB.out) | (with_reducible refine Kd.C_alloc ?_ _) | (with_reducible refine Kd.C_drewN ?_ _) | (with_reducible refine Kd.C_drew ?_))); (case side2 => exact HC1.out); rintro e w' ⟨rfl, ⟨nd, rfl⟩⟩; refine ⟨_, rfl, ?_⟩))
    go_ret
    exact ⟨by first | rfl | (simp [errW_none, errW_some] <;> rfl) | (simp [*, errW_none, errW_some] <;> rfl), by repeat (first | (with_reducible first | exact HB.out | apply below_alloc | apply pw_below_drewN | apply below_drew1 | refine below_set ?_ GE360.out) | exact HB.out)⟩
end Go.Proofs.YtdeneoknjeegbaaDoor.P
end
section
namespace Go.Proofs.YtdeneoknjeegbaaDoor.P
open Go.RowKit YtdeneoknjeegbaaDoor.Pure YtdeneoknjeegbaaDoorW.PrintWords YtdeneoknjeegbaaDoorW.PrintLast YtdeneoknjeegbaaDoorW.PrintMore
theorem strNum_eq {a b : List Int} (ha : BytesOk a) (hb : BytesOk b) : ((strOfNums a).toList == (strOfNums b).toList) = decide (a = b) := by
  have key : ∀ {a b : List Int}, BytesOk a -> BytesOk b -> (a.map fun n => UInt8.ofNat n.toNat) = (b.map fun n => UInt8.ofNat n.toNat) -> a = b := by
    intro a
    induction a with
    | nil => intro b _ _ h; cases b <;> simp_all
    | cons x xs ih =>
      intro b ha hb h
      cases b with
      | nil => simp at h
      | cons y ys =>
        simp only [List.map_cons, List.cons.injEq] at h
        have hx := ha x (by simp)
        have hy := hb y (by simp)
        have h1 := congrArg UInt8.toNat h.1
        simp only [UInt8.toNat_ofNat'] at h1
        have h2 := ih (fun z hz => ha z (List.mem_cons_of_mem _ hz)) (fun z hz => hb z (List.mem_cons_of_mem _ hz)) h.2
        rw [h2, show x = y by omega]
  rw [ByteArray.toList_eq, ByteArray.toList_eq, strOfNums_data, strOfNums_data, Bool.eq_iff_iff, beq_iff_eq, decide_eq_true_eq]
  exact ⟨key ha hb, fun h => by rw [h]⟩
def beginsB (l p : List Int) (n : Int) : Bool := if n < 1 then true else if n <= 8 * (min l.length p.length : Nat) then decide (n <= bcommon l p) else false
theorem begins_f (l p : List Int) (n : Int) (hl : l.length <= 1000000000000) : bits_Begins.f l p n = some (beginsB l p n) := by
  have hw : wrap64 (8 * mn (l.length : Int) (p.length : Int)) = 8 * ((min l.length p.length : Nat) : Int) := by
    unfold mn
    rw [wrap64_id _ (by split <;> omega)]
    split <;> omega
  unfold bits_Begins.f beginsB
  rw [hw]
  unfold bits_Common.f
  rw [if_pos hl]
  by_cases h1 : n < 1
  · rw [if_pos h1, if_pos h1]
  · rw [if_neg h1, if_neg h1]
    by_cases h2 : n <= 8 * ((min l.length p.length : Nat) : Int)
    · rw [if_pos h2, if_pos h2]
      rfl
    · rw [if_neg h2, if_neg h2]
def bitP (l : List Int) (a : Int) : Int := (bits_Bit.f 1 l a).getD 0
theorem bit_f (k : Nat) (l : List Int) (a : Int) : bits_Bit.f (k + 1) l a = some (bitP l a) := by
  have h7 : 0 <= Go.bits .and .i64 a 7 := by rw [and7]; omega
  have key : ∀ (k : Nat) (x : Bool), (x = false -> 0 <= a / 8 /\ a / 8 < (l.length : Int)) -> ∃ r, ∀ j, bits_Bit.j0 (j + 1) l a x = some r := by
    intro k x hx
    cases x with
    | true => exact ⟨-1, fun j => rfl⟩
    | false =>
      obtain ⟨h1, h2⟩ := hx rfl
      by_cases hz : Go.bits .and .u8 (rd l (a / 8)) (shr .u8 128 (Go.bits .and .i64 a 7)) = 0
      · exact ⟨0, fun j => by simp only [bits_Bit.j0]; rw [if_neg (by simp), if_pos h1, if_pos h2, if_pos h7, if_pos hz]⟩
      · exact ⟨1, fun j => by simp only [bits_Bit.j0]; rw [if_neg (by simp), if_pos h1, if_pos h2, if_pos h7, if_neg hz]⟩
  unfold bitP bits_Bit.f
  by_cases h0 : a < 0
  · simp only [if_pos h0]
    obtain ⟨r, hr⟩ := key 0 true (fun h => by cases h)
    rw [hr k, hr 0]
    rfl
  · simp only [if_neg h0]
    obtain ⟨r, hr⟩ := key 0 (decide (a / 8 >= (l.length : Int))) (fun h => ⟨by omega, by have := of_decide_eq_false h; omega⟩)
    rw [hr k, hr 0]
    rfl
def belowB (n : Nd) (row : List Int) : Int := if bitP row n.f4 = 1 then n.f8 else n.f7
theorem below_f (k : Nat) (n : Nd) (row : List Int) : ptree_below.f (k + 1) n.f0 n.f1 n.f2 n.f3 n.f4 n.f5 n.f6 n.f7 n.f8 n.f9 row = some (belowB n row) := by
  unfold ptree_below.f belowB
  rw [bit_f]
  simp only [Option.bind_some]
  split <;> rfl
inductive PT
  | leaf (n : Nd)
  | fork (n : Nd) (l r : PT)
def PT.h : PT -> Nat
  | .leaf _ => 0
  | .fork _ l r => max l.h r.h + 1
def IsT (cs : Cs) : Int -> PT -> Prop
  | i, .leaf n => nodeAt cs i = some n /\ n.f0 = true
  | i, .fork n l r => nodeAt cs i = some n /\ n.f0 = false /\ IsT cs n.f7 l /\ IsT cs n.f8 r
structure Spot where
  forks : List Nd
  at_ : Int
  node : Nd
  same : Bool
def Spot.cons (n : Nd) (s : Spot) : Spot := ⟨n :: s.forks, s.at_, s.node, s.same⟩
def findT (row id : List Int) : Int -> PT -> Spot
  | i, .leaf n => ⟨[], i, n, decide (n.f1 = id)⟩
  | i, .fork n l r => if beginsB row n.f5 n.f4 then (if bitP row n.f4 = 1 then (findT row id n.f8 r).cons n else (findT row id n.f7 l).cons n) else ⟨[], i, n, false⟩
def findO (row id : List Int) (i : Int) : Option PT -> Spot
  | none => ⟨[], -1, z39, false⟩
  | some t => findT row id i t
def IsO (cs : Cs) (i : Int) : Option PT -> Prop
  | none => nodeAt cs i = none
  | some t => IsT cs i t
def heightO : Option PT -> Nat
  | none => 0
  | some t => t.h
theorem formR {α : Type} {d : Kd α} {e base : Nat} {ok : Nat -> Prop} {w : World} {v : Value} {xs : List α} (h : d.R e w base ok v xs) : ∃ A n c, v = .slice A n c := by
  obtain ⟨A, c, e⟩ := Kd.R_slice h
  exact ⟨A, _, c, e⟩
end Go.Proofs.YtdeneoknjeegbaaDoor.P
end
section
namespace Go.Proofs.YtdeneoknjeegbaaDoor.P
open Go.RowKit YtdeneoknjeegbaaDoorW.PrintWords YtdeneoknjeegbaaDoorW.PrintLast YtdeneoknjeegbaaDoorW.PrintMore
attribute [local go_sem] max2_int min2_int max_two min_two max_three min_three max_four min_four
def annalsref03_Bit.f (l0 : List Int) (a1 : Int) : Option (Int) := if a1 < 0 then (some (-1)) else (if (wrap64 (Int.tdiv a1 8)) >= (l0.length : Int) then (some (-1)) else (if 0 <= (wrap64 (Int.tdiv a1 8)) then (if (wrap64 (Int.tdiv a1 8)) < (l0.length : Int) then (if 0 <= (wrap64 (7 - (Int.tmod a1 8))) then (some (Go.bits .and .i64 (wrap64 (shr .u8 (rd l0 (wrap64 (Int.tdiv a1 8))) (wrap64 (7 - (Int.tmod a1 8))))) 1)) else (none)) else (none)) else (none)))
set_option maxHeartbeats 8000000 in
set_option maxRecDepth 100000 in
theorem annalsref03_Bit.calls (A0 : Option Addr) (c0 : Nat) (l0 : List Int) (a1 : Int) (r : Int) (w : World) (hr0 : Kd.C (Kd.int .u8) w A0 l0.length l0) (hc0 : l0.length <= c0) (h : annalsref03_Bit.f l0 a1 = some r) :
    Calls Tryd.prog 64 #[.slice A0 l0.length c0, .int .i64 a1] w fun e w' => e = .returned (.int .i64 r) /\ Drawn0 w w' := by
  have HR0 := z_ hr0
  have HC0 := z_ hc0
  clear hr0 hc0
  have H : (if a1 < 0 then (some (-1)) else (if (wrap64 (Int.tdiv a1 8)) >= (l0.length : Int) then (some (-1)) else (if 0 <= (wrap64 (Int.tdiv a1 8)) then (if (wrap64 (Int.tdiv a1 8)) < (l0.length : Int) then (if 0 <= (wrap64 (7 - (Int.tmod a1 8))) then (some (Go.bits .and .i64 (wrap64 (shr .u8 (rd l0 (wrap64 (Int.tdiv a1 8))) (wrap64 (7 - (Int.tmod a1 8))))) 1)) else (none)) else (none)) else (none)))) = some r := h
  clear h
  by_cases c3 : a1 < 0
  · rw [if_pos c3] at H
    have c3b0 : decide (a1 < 0) = true := decide_eq_true c3
    clear c3
    obtain rfl := Option.some.inj H
    go_enter Tryd.func64, Tryd.ntmps64
    go_wp2
    go_ret
    exact ⟨by first | rfl | (simp; done) | (simp [*]; done), by repeat (first | exact Drawn0.refl _ | apply Drawn0.step)⟩
  · rw [if_neg c3] at H
    have c3b0 : decide (a1 < 0) = false := decide_eq_false c3
    clear c3
    by_cases c4 : (wrap64 (Int.tdiv a1 8)) >= (l0.length : Int)
    · rw [if_pos c4] at H
      have c4b0 : decide ((l0.length : Int) <= (wrap64 (Int.tdiv a1 8))) = true := decide_eq_true c4
      clear c4
      obtain rfl := Option.some.inj H
      go_enter Tryd.func64, Tryd.ntmps64
      go_wp2
      go_ret
      exact ⟨by first | rfl | (simp; done) | (simp [*]; done), by repeat (first | exact Drawn0.refl _ | apply Drawn0.step)⟩
    · rw [if_neg c4] at H
      have c4b0 : decide ((l0.length : Int) <= (wrap64 (Int.tdiv a1 8))) = false := decide_eq_false c4
      clear c4
      obtain ⟨ji5, hji5⟩ : ∃ j_ : Int, (wrap64 (Int.tdiv a1 8)) = j_ := ⟨_, rfl⟩
      replace H : (if 0 <= (ji5) then (if (ji5) < (l0.length : Int) then (if 0 <= (wrap64 (7 - (Int.tmod a1 8))) then (some (Go.bits .and .i64 (wrap64 (shr .u8 (rd l0 (ji5)) (wrap64 (7 - (Int.tmod a1 8))))) 1)) else (none)) else (none)) else (none)) = some r := by first | (rw [hji5] at H; exact H) | (simp only [hji5] at H ⊢; exact H)
      (try rw [hji5] at c4b0)
      have hji5w : (IntKind.i64.wrap (Int.tdiv a1 8)) = ji5 := (i64_w _).trans hji5
      by_cases c6 : 0 <= (ji5)
      · rw [if_pos c6] at H
        have c6b0 : decide (0 <= (ji5)) = true := decide_eq_true c6
        clear c6
        by_cases c7 : (ji5) < (l0.length : Int)
        · rw [if_pos c7] at H
          have c7b0 : decide ((ji5) < (l0.length : Int)) = true := decide_eq_true c7
          clear c7
          obtain ⟨ji8, hji8⟩ : ∃ j_ : Int, (wrap64 (7 - (Int.tmod a1 8))) = j_ := ⟨_, rfl⟩
          replace H : (if 0 <= (ji8) then (some (Go.bits .and .i64 (wrap64 (shr .u8 (rd l0 (ji5)) (ji8))) 1)) else (none)) = some r := by first | (rw [hji8] at H; exact H) | (simp only [hji8] at H ⊢; exact H)
          have hji8w : (IntKind.i64.wrap (7 - (Int.tmod a1 8))) = ji8 := (i64_w _).trans hji8
          by_cases c9 : 0 <= (ji8)
          · rw [if_pos c9] at H
            have c9b0 := eq_true c9
            have c9b1 : decide (0 <= (ji8)) = true := decide_eq_true c9
            clear c9
            obtain ⟨ji10, hji10⟩ : ∃ j_ : Int, (shr .u8 (rd l0 (ji5)) (ji8)) = j_ := ⟨_, rfl⟩
            replace H : (some (Go.bits .and .i64 (wrap64 (ji10)) 1)) = some r := by first | (rw [hji10] at H; exact H) | (simp only [hji10] at H ⊢; exact H)
            have hji10_ : ((rd l0 (ji5)) / 2 ^ min (ji8).toNat 8) = ji10 := hji10
            have hji10z : (ji8) <= 8 -> ((rd l0 (ji5)) / 2 ^ (ji8).toNat) = ji10 := shr_small hji10
            obtain rfl := Option.some.inj H
            have p376 : 0 <= ((ji5) : Int) := of_decide_eq_true (by first | (with_reducible assumption) | assumption)
            have q376 : (ji5) < (l0.length : Int) := of_decide_eq_true (by first | (with_reducible assumption) | assumption)
            obtain ⟨ad376, e376, hx376_0⟩ := Kd.at_int HR0.out (ji5) p376 q376
            cases e376
            replace p376 := eq_true p376
            replace q376 := eq_true q376
            go_enter Tryd.func64, Tryd.ntmps64
            go_wp2
            go_ret
            exact ⟨by first | rfl | (simp; done) | (simp only [<- hji5, <- hji8, <- hji10] <;> (first | rfl | simp)) | (simp [*]; done), by repeat (first | exact Drawn0.refl _ | apply Drawn0.step)⟩
          · rw [if_neg c9] at H
            exact absurd H (by simp)
        · rw [if_neg c7] at H
          exact absurd H (by simp)
      · rw [if_neg c6] at H
        exact absurd H (by simp)
def annalsref03_Common.l0 : Nat -> List Int -> List Int -> Int -> Option (Int)
  | 0, _, _, _ => none
  | k + 1, x0, x1, x5 => (annalsref03_Bit.f x0 x5).bind fun t377 => (if t377 >= 0 then ((annalsref03_Bit.f x0 x5).bind fun t378 => ((annalsref03_Bit.f x1 x5).bind fun t379 => (if t378 = t379 then (annalsref03_Common.l0 k x0 x1 (wrap64 (x5 + 1))) else (some x5)))) else (some x5))
def annalsref03_Common.f (k : Nat) (l0 : List Int) (l1 : List Int) : Option (Int) := annalsref03_Common.l0 k l0 l1 0
theorem annalsref03_Common.mono_l : ∀ k, (∀ y0 y1 y2, LeO (annalsref03_Common.l0 k y0 y1 y2) (annalsref03_Common.l0 (k + 1) y0 y1 y2))
  | 0 => fun _ _ _ r h => by simp [annalsref03_Common.l0] at h
  | k + 1 => by
    have ih0 := annalsref03_Common.mono_l k
    · intro y0 y1 y2
      unfold annalsref03_Common.l0
      repeat' first
      | (with_reducible exact ih0 _ _ _)
      | (with_reducible exact LeO.refl _)
      | (with_reducible exact LeO.none _)
      | (with_reducible refine LeO.ite ?_ ?_)
      | (with_reducible refine LeO.bind ?_ (fun _ => ?_))
      | exact ih0 _ _ _
      | exact LeO.none _
      | refine LeO.ite ?_ ?_
      | refine LeO.bind ?_ (fun _ => ?_)
theorem annalsref03_Common.mono : ∀ a0 a1 k, LeO (annalsref03_Common.f k a0 a1) (annalsref03_Common.f (k + 1) a0 a1) := by
  intro a0 a1 k
  have ih0 := annalsref03_Common.mono_l k
  unfold annalsref03_Common.f
  repeat' first
      | (with_reducible exact ih0 _ _ _)
      | (with_reducible exact LeO.refl _)
      | (with_reducible exact LeO.none _)
      | (with_reducible refine LeO.ite ?_ ?_)
      | (with_reducible refine LeO.bind ?_ (fun _ => ?_))
      | exact ih0 _ _ _
      | exact LeO.none _
      | refine LeO.ite ?_ ?_
      | refine LeO.bind ?_ (fun _ => ?_)
set_option maxHeartbeats 8000000 in
set_option maxRecDepth 100000 in
theorem annalsref03_Common.calls (k : Nat) (A0 : Option Addr) (c0 : Nat) (l0 : List Int) (A1 : Option Addr) (c1 : Nat) (l1 : List Int) (r : Int) (w : World) (hr0 : Kd.C (Kd.int .u8) w A0 l0.length l0) (hc0 : l0.length <= c0) (hr1 : Kd.C (Kd.int .u8) w A1 l1.length l1) (hc1 : l1.length <= c1) (h : annalsref03_Common.f k l0 l1 = some r) :
    Calls Tryd.prog 63 #[.slice A0 l0.length c0, .slice A1 l1.length c1] w fun e w' => e = .returned (.int .i64 r) /\ Drawn0 w w' := by
  have HR0 := z_ hr0
  have HC0 := z_ hc0
  clear hr0 hc0
  have HR1 := z_ hr1
  have HC1 := z_ hc1
  clear hr1 hc1
  have H : (annalsref03_Common.l0 k l0 l1 0) = some r := h
  clear h
  have H' := z_ H
  clear H
  go_enter Tryd.func63, Tryd.ntmps63
  go_wp2
  go_loopg [5] k (fun kq v5 w' => ∃ (x5_1 : Int), v5 = .int .i64 x5_1 /\ Aside0 (annalsref03_Common.l0 kq l0 l1 x5_1 = some r) /\ Aside0 (kq <= k) /\ Drawn0 w w')
  case atStart => exact ⟨(0), (by first | rfl | (simp; done) | (simp [*]; done)), H', ⟨Nat.le_refl _⟩, by repeat (first | exact Drawn0.refl _ | apply Drawn0.step)⟩
  case round =>
    clear H'
    try clear c1
    try clear p2
    obtain ⟨x5_1, rfl, HA, HK1, ⟨m1, rfl⟩⟩ := hrel
    cases gk with
    | zero => exact absurd HA.out (by simp [annalsref03_Common.l0])
    | succ k1 =>
      have H := HA.out
      clear HA
      simp only [annalsref03_Common.l0] at H
      replace H := Option.bind_eq_some_iff.mp H
      obtain ⟨t377, A30, H⟩ := H
      replace H : (if t377 >= 0 then ((annalsref03_Bit.f l0 x5_1).bind fun t378 => ((annalsref03_Bit.f l1 x5_1).bind fun t379 => (if t378 = t379 then (annalsref03_Common.l0 k1 l0 l1 (wrap64 (x5_1 + 1))) else (some x5_1)))) else (some x5_1)) = some r := H
      have A3 := z_ A30
      clear A30
      by_cases c4 : t377 >= 0
      · rw [if_pos c4] at H
        have c4b0 : decide (0 <= t377) = true := decide_eq_true c4
        clear c4
        replace H := Option.bind_eq_some_iff.mp H
        obtain ⟨t378, A50, H⟩ := H
        replace H : ((annalsref03_Bit.f l1 x5_1).bind fun t379 => (if t378 = t379 then (annalsref03_Common.l0 k1 l0 l1 (wrap64 (x5_1 + 1))) else (some x5_1))) = some r := H
        have A5 := z_ A50
        clear A50
        replace H := Option.bind_eq_some_iff.mp H
        obtain ⟨t379, A60, H⟩ := H
        replace H : (if t378 = t379 then (annalsref03_Common.l0 k1 l0 l1 (wrap64 (x5_1 + 1))) else (some x5_1)) = some r := H
        have A6 := z_ A60
        clear A60
        by_cases c7 : t378 = t379
        · rw [if_pos c7] at H
          have c7b0 : (t378 == t379) = true := beq_iff_eq.mpr c7
          have c7b1 : (t378 != t379) = false := bne_eq_false_iff_eq.mpr c7
          clear c7
          have H' := z_ H
          clear H
          go_wp2_with (first | ((with_reducible refine gate_callee (f := 64) rfl ?_); refine goesL_ (some 8) rfl rfl Tryd.func64 (by kernel_rfl) rfl #[.slice A0 l0.length c0, .int .i64 x5_1] rfl (by (try simp only [List.map_toArray, List.map_cons, List.map_nil]); first | done | rfl | (simp only [List.length_drop, List.length_take]; rfl)) ?_; (with_reducible refine (annalsref03_Bit.calls _ _ l0 x5_1 t377 _ ?side1 ?side2 A3.out).mono ?_); (case side1 => repeat (first | exact HR0.out | (with_reducible refine Kd.C_alloc ?_ _) | (with_reducible refine Kd.C_drewN ?_ _) | (with_reducible refine Kd.C_drew ?_))); (case side2 => exact HC0.out); rintro e w' ⟨rfl, ⟨nd, rfl⟩⟩; refine ⟨_, rfl, ?_⟩) | (go_at_call 64; (with_reducible refine (annalsref03_Bit.calls _ _ l0 x5_1 t378 _ ?side1 ?side2 A5.out).mono ?_); (case side1 => repeat (first | exact HR0.out | (with_reducible refine Kd.C_alloc ?_ _) | (with_reducible refine Kd.C_drewN ?_ _) | (with_reducible refine Kd.C_drew ?_))); (case side2 => exact HC0.out); rintro e w' ⟨rfl, ⟨nd, rfl⟩⟩) | (go_at_call 64; (with_reducible refine (annalsref03_Bit.calls _ _ l1 x5_1 t379 _ ?side1 ?side2 A6.out).mono ?_); (case side1 => repeat (first | exact HR1.out | (with_reducible refine Kd.C_alloc ?_ _) | (with_reducible refine Kd.C_drewN ?_ _) | (with_reducible refine Kd.C_drew ?_))); (case side2 => exact HC1.out); rintro e w' ⟨rfl, ⟨nd, rfl⟩⟩))
          go_roundg k1
          case measure => have := HK1.out; omega
          case rel => exact ⟨(wrap64 (x5_1 + 1)), (by first | rfl | (simp; done) | (simp [*]; done)), H', ⟨by have := HK1.out; omega⟩, by repeat (first | exact Drawn0.refl _ | apply Drawn0.step)⟩
        · rw [if_neg c7] at H
          have c7b0 : (t378 == t379) = false := beq_eq_false_iff_ne.mpr c7
          have c7b1 : (t378 != t379) = true := bne_iff_ne.mpr c7
          obtain rfl := Option.some.inj H
          go_wp2_with (first | ((with_reducible refine gate_callee (f := 64) rfl ?_); refine goesL_ (some 8) rfl rfl Tryd.func64 (by kernel_rfl) rfl #[.slice A0 l0.length c0, .int .i64 x5_1] rfl (by (try simp only [List.map_toArray, List.map_cons, List.map_nil]); first | done | rfl | (simp only [List.length_drop, List.length_take]; rfl)) ?_; (with_reducible refine (annalsref03_Bit.calls _ _ l0 x5_1 t377 _ ?side1 ?side2 A3.out).mono ?_); (case side1 => repeat (first | exact HR0.out | (with_reducible refine Kd.C_alloc ?_ _) | (with_reducible refine Kd.C_drewN ?_ _) | (with_reducible refine Kd.C_drew ?_))); (case side2 => exact HC0.out); rintro e w' ⟨rfl, ⟨nd, rfl⟩⟩; refine ⟨_, rfl, ?_⟩) | (go_at_call 64; (with_reducible refine (annalsref03_Bit.calls _ _ l0 x5_1 t378 _ ?side1 ?side2 A5.out).mono ?_); (case side1 => repeat (first | exact HR0.out | (with_reducible refine Kd.C_alloc ?_ _) | (with_reducible refine Kd.C_drewN ?_ _) | (with_reducible refine Kd.C_drew ?_))); (case side2 => exact HC0.out); rintro e w' ⟨rfl, ⟨nd, rfl⟩⟩) | (go_at_call 64; (with_reducible refine (annalsref03_Bit.calls _ _ l1 x5_1 t379 _ ?side1 ?side2 A6.out).mono ?_); (case side1 => repeat (first | exact HR1.out | (with_reducible refine Kd.C_alloc ?_ _) | (with_reducible refine Kd.C_drewN ?_ _) | (with_reducible refine Kd.C_drew ?_))); (case side2 => exact HC1.out); rintro e w' ⟨rfl, ⟨nd, rfl⟩⟩))
          go_ret
          exact ⟨by first | rfl | (simp; done) | (simp [*]; done), by repeat (first | exact Drawn0.refl _ | apply Drawn0.step)⟩
      · rw [if_neg c4] at H
        have c4b0 : decide (0 <= t377) = false := decide_eq_false c4
        clear c4
        obtain rfl := Option.some.inj H
        go_wp2_with (first | ((with_reducible refine gate_callee (f := 64) rfl ?_); refine goesL_ (some 8) rfl rfl Tryd.func64 (by kernel_rfl) rfl #[.slice A0 l0.length c0, .int .i64 x5_1] rfl (by (try simp only [List.map_toArray, List.map_cons, List.map_nil]); first | done | rfl | (simp only [List.length_drop, List.length_take]; rfl)) ?_; (with_reducible refine (annalsref03_Bit.calls _ _ l0 x5_1 t377 _ ?side1 ?side2 A3.out).mono ?_); (case side1 => repeat (first | exact HR0.out | (with_reducible refine Kd.C_alloc ?_ _) | (with_reducible refine Kd.C_drewN ?_ _) | (with_reducible refine Kd.C_drew ?_))); (case side2 => exact HC0.out); rintro e w' ⟨rfl, ⟨nd, rfl⟩⟩; refine ⟨_, rfl, ?_⟩))
        go_ret
        exact ⟨by first | rfl | (simp; done) | (simp [*]; done), by repeat (first | exact Drawn0.refl _ | apply Drawn0.step)⟩
def annalsref03_Begins.f (k : Nat) (l0 : List Int) (l1 : List Int) (a2 : Int) : Option (Bool) := if a2 < 1 then (some true) else (if (wrap64 (Int.tdiv a2 8)) <= (l0.length : Int) then (if a2 <= (wrap64 (8 * (l0.length : Int))) then (if a2 <= (wrap64 (8 * (l1.length : Int))) then ((annalsref03_First.f k l0 a2).bind fun t380 => ((annalsref03_First.f k l1 a2).bind fun t383 => ((annalsref03_Common.f k t380 t383).bind fun t386 => (some (decide (t386 >= a2)))))) else (some false)) else (some false)) else (some false))
theorem annalsref03_Begins.mono : ∀ a0 a1 a2 k, LeO (annalsref03_Begins.f k a0 a1 a2) (annalsref03_Begins.f (k + 1) a0 a1 a2) := by
  intro a0 a1 a2 k
  unfold annalsref03_Begins.f
  repeat' first
      | (with_reducible exact annalsref03_Common.mono _ _ _)
      | (with_reducible exact annalsref03_First.mono _ _ _)
      | (with_reducible exact LeO.refl _)
      | (with_reducible exact LeO.none _)
      | (with_reducible refine LeO.ite ?_ ?_)
      | (with_reducible refine LeO.bind ?_ (fun _ => ?_))
      | exact annalsref03_Common.mono _ _ _
      | exact annalsref03_First.mono _ _ _
      | exact LeO.none _
      | refine LeO.ite ?_ ?_
      | refine LeO.bind ?_ (fun _ => ?_)
set_option maxHeartbeats 8000000 in
set_option maxRecDepth 100000 in
theorem annalsref03_Begins.calls (k : Nat) (A0 : Option Addr) (c0 : Nat) (l0 : List Int) (A1 : Option Addr) (c1 : Nat) (l1 : List Int) (a2 : Int) (r : Bool) (w : World) (hr0 : Kd.C (Kd.int .u8) w A0 l0.length l0) (hc0 : l0.length <= c0) (hr1 : Kd.C (Kd.int .u8) w A1 l1.length l1) (hc1 : l1.length <= c1) (h : annalsref03_Begins.f k l0 l1 a2 = some r) :
    Calls Tryd.prog 90 #[.slice A0 l0.length c0, .slice A1 l1.length c1, .int .i64 a2] w fun e w' => e = .returned (.bool r) /\ Below w.heap.size w w' := by
  have HR0 := z_ hr0
  have HC0 := z_ hc0
  clear hr0 hc0
  have HR1 := z_ hr1
  have HC1 := z_ hc1
  clear hr1 hc1
  have HB := z_ (Below.refl w.heap.size w)
  have H : (if a2 < 1 then (some true) else (if (wrap64 (Int.tdiv a2 8)) <= (l0.length : Int) then (if a2 <= (wrap64 (8 * (l0.length : Int))) then (if a2 <= (wrap64 (8 * (l1.length : Int))) then ((annalsref03_First.f k l0 a2).bind fun t380 => ((annalsref03_First.f k l1 a2).bind fun t383 => ((annalsref03_Common.f k t380 t383).bind fun t386 => (some (decide (t386 >= a2)))))) else (some false)) else (some false)) else (some false))) = some r := h
  clear h
  by_cases c4 : a2 < 1
  · rw [if_pos c4] at H
    have c4b0 : decide (a2 < 1) = true := decide_eq_true c4
    clear c4
    obtain rfl := Option.some.inj H
    go_enter Tryd.func90, Tryd.ntmps90
    go_wp2
    go_ret
    exact ⟨by first | rfl | (simp [errW_none, errW_some] <;> rfl) | (simp [*, errW_none, errW_some] <;> rfl), by repeat (first | (with_reducible first | exact HB.out | apply below_alloc | apply pw_below_drewN | apply below_drew1) | exact HB.out)⟩
  · rw [if_neg c4] at H
    have c4b0 : decide (a2 < 1) = false := decide_eq_false c4
    clear c4
    by_cases c5 : (wrap64 (Int.tdiv a2 8)) <= (l0.length : Int)
    · rw [if_pos c5] at H
      have c5b0 : decide ((wrap64 (Int.tdiv a2 8)) <= (l0.length : Int)) = true := decide_eq_true c5
      clear c5
      by_cases c6 : a2 <= (wrap64 (8 * (l0.length : Int)))
      · rw [if_pos c6] at H
        have c6b0 : decide (a2 <= (wrap64 (8 * (l0.length : Int)))) = true := decide_eq_true c6
        clear c6
        by_cases c7 : a2 <= (wrap64 (8 * (l1.length : Int)))
        · rw [if_pos c7] at H
          have c7b0 : decide (a2 <= (wrap64 (8 * (l1.length : Int)))) = true := decide_eq_true c7
          clear c7
          replace H := Option.bind_eq_some_iff.mp H
          obtain ⟨t380, A80, H⟩ := H
          replace H : ((annalsref03_First.f k l1 a2).bind fun t383 => ((annalsref03_Common.f k t380 t383).bind fun t386 => (some (decide (t386 >= a2))))) = some r := H
          have A8 := z_ A80
          clear A80
          replace H := Option.bind_eq_some_iff.mp H
          obtain ⟨t383, A90, H⟩ := H
          replace H : ((annalsref03_Common.f k t380 t383).bind fun t386 => (some (decide (t386 >= a2)))) = some r := H
          have A9 := z_ A90
          clear A90
          replace H := Option.bind_eq_some_iff.mp H
          obtain ⟨t386, A100, H⟩ := H
          replace H : (some (decide (t386 >= a2))) = some r := H
          have A10 := z_ A100
          clear A100
          obtain rfl := Option.some.inj H
          go_enter Tryd.func90, Tryd.ntmps90
          go_wp2_with (first | (go_at_call 79; (with_reducible refine (annalsref03_First.calls k _ _ l0 a2 t380 _ ?side1 ?side2 A8.out).mono ?_); (case side1 => repeat (first | exact HR0.out | (with_reducible refine Kd.C_alloc ?_ _) | (with_reducible refine Kd.C_drewN ?_ _) | (with_reducible refine Kd.C_drew ?_))); (case side2 => exact HC0.out); rintro e w11 ⟨v381, rfl, ho0, hb⟩; have n0_ := z_ (Kd.R_lower ho0 (below_size (by repeat (first | (with_reducible first | exact HB.out | apply below_alloc | apply pw_below_drewN | apply below_drew1) | exact HB.out)))); have n1_ := z_ (below_step (by repeat (first | (with_reducible first | exact HB.out | apply below_alloc | apply pw_below_drewN | apply below_drew1) | exact HB.out)) hb); clear HB; have HO382 := n0_; have HB := n1_; clear n0_ n1_; (try clear hb); (try clear hb2); (try clear hk); (try clear hi); (try clear ho0)) | (go_at_call 79; (with_reducible refine (annalsref03_First.calls k _ _ l1 a2 t383 _ ?side1 ?side2 A9.out).mono ?_); (case side1 => repeat (first | exact (Kd.C_below HR1.out HB.out) | (with_reducible refine Kd.C_alloc ?_ _) | (with_reducible refine Kd.C_drewN ?_ _) | (with_reducible refine Kd.C_drew ?_))); (case side2 => exact HC1.out); rintro e w12 ⟨v384, rfl, ho0, hb⟩; have n0_ := z_ (Kd.R_elder' (by (with_reducible repeat (first | apply Kd.R_alloc | apply Kd.R_drewN | apply Kd.R_drew)); exact HO382.out) (Kd.R_base ho0) hb); have n1_ := z_ (Kd.R_lower (Kd.R_new' ho0 (Kd.R_lt (by (with_reducible repeat (first | apply Kd.R_alloc | apply Kd.R_drewN | apply Kd.R_drew)); exact HO382.out))) (below_size (by repeat (first | (with_reducible first | exact HB.out | apply below_alloc | apply pw_below_drewN | apply below_drew1) | exact HB.out)))); have n2_ := z_ (below_step (by repeat (first | (with_reducible first | exact HB.out | apply below_alloc | apply pw_below_drewN | apply below_drew1) | exact HB.out)) hb); clear HO382; clear HB; have HO382 := n0_; have HO385 := n1_; have HB := n2_; clear n0_ n1_ n2_; (try clear hb); (try clear hb2); (try clear hk); (try clear hi); (try clear ho0); obtain ⟨Ao13, co13, eo13⟩ := Kd.R_slice HO382.out; subst eo13; obtain ⟨Ao14, co14, eo14⟩ := Kd.R_slice HO385.out; subst eo14) | (go_at_call 63; (with_reducible refine (annalsref03_Common.calls k _ _ t380 _ _ t383 t386 _ ?side1 ?side2 ?side3 ?side4 A10.out).mono ?_); (case side1 => repeat (first | exact (Kd.R_reads' HO382.out).2.2 | (with_reducible refine Kd.C_alloc ?_ _) | (with_reducible refine Kd.C_drewN ?_ _) | (with_reducible refine Kd.C_drew ?_))); (case side2 => exact (Kd.R_reads' HO382.out).2.1); (case side3 => repeat (first | exact (Kd.R_reads' HO385.out).2.2 | (with_reducible refine Kd.C_alloc ?_ _) | (with_reducible refine Kd.C_drewN ?_ _) | (with_reducible refine Kd.C_drew ?_))); (case side4 => exact (Kd.R_reads' HO385.out).2.1); rintro e w' ⟨rfl, ⟨nd, rfl⟩⟩))
          go_ret
          exact ⟨by first | rfl | (simp [errW_none, errW_some] <;> rfl) | (simp [*, errW_none, errW_some] <;> rfl), by repeat (first | (with_reducible first | exact HB.out | apply below_alloc | apply pw_below_drewN | apply below_drew1) | exact HB.out)⟩
        · rw [if_neg c7] at H
          have c7b0 : decide (a2 <= (wrap64 (8 * (l1.length : Int)))) = false := decide_eq_false c7
          clear c7
          obtain rfl := Option.some.inj H
          go_enter Tryd.func90, Tryd.ntmps90
          go_wp2
          go_ret
          exact ⟨by first | rfl | (simp [errW_none, errW_some] <;> rfl) | (simp [*, errW_none, errW_some] <;> rfl), by repeat (first | (with_reducible first | exact HB.out | apply below_alloc | apply pw_below_drewN | apply below_drew1) | exact HB.out)⟩
      · rw [if_neg c6] at H
        have c6b0 : decide (a2 <= (wrap64 (8 * (l0.length : Int)))) = false := decide_eq_false c6
        clear c6
        obtain rfl := Option.some.inj H
        go_enter Tryd.func90, Tryd.ntmps90
        go_wp2
        go_ret
        exact ⟨by first | rfl | (simp [errW_none, errW_some] <;> rfl) | (simp [*, errW_none, errW_some] <;> rfl), by repeat (first | (with_reducible first | exact HB.out | apply below_alloc | apply pw_below_drewN | apply below_drew1) | exact HB.out)⟩
    · rw [if_neg c5] at H
      have c5b0 : decide ((wrap64 (Int.tdiv a2 8)) <= (l0.length : Int)) = false := decide_eq_false c5
      clear c5
      obtain rfl := Option.some.inj H
      go_enter Tryd.func90, Tryd.ntmps90
      go_wp2
      go_ret
      exact ⟨by first | rfl | (simp [errW_none, errW_some] <;> rfl) | (simp [*, errW_none, errW_some] <;> rfl), by repeat (first | (with_reducible first | exact HB.out | apply below_alloc | apply pw_below_drewN | apply below_drew1) | exact HB.out)⟩
end Go.Proofs.YtdeneoknjeegbaaDoor.P
end
section
namespace Go.Proofs.YtdeneoknjeegbaaDoor.P
open Go.RowKit YtdeneoknjeegbaaDoor.Pure YtdeneoknjeegbaaDoorW.PrintWords YtdeneoknjeegbaaDoorW.PrintLast YtdeneoknjeegbaaDoorW.PrintMore
def bitX (x : Int) (j : Nat) : Int := x / 2 ^ (7 - j) % 2
def bitN : List Int -> Nat -> Int
  | [], _ => -1
  | x :: xs, i => if i < 8 then bitX x i else bitN xs (i - 8)
theorem bitX_range (x : Int) (j : Nat) : 0 <= bitX x j /\ bitX x j <= 1 := by unfold bitX; omega
theorem bitN_at : ∀ (l : List Int) (i : Nat), bitN l i = if i / 8 < l.length then bitX (l.getD (i / 8) 0) (i % 8) else -1
  | [], i => by simp [bitN]
  | x :: xs, i => by
    unfold bitN
    by_cases h : i < 8
    · rw [if_pos h, if_pos (by simp; omega), show i / 8 = 0 by omega, show i % 8 = i by omega]
      rfl
    · rw [if_neg h, bitN_at xs (i - 8)]
      have h1 : i / 8 = (i - 8) / 8 + 1 := by omega
      have h2 : (i - 8) % 8 = i % 8 := by omega
      rw [h1, h2, List.length_cons]
      by_cases h3 : (i - 8) / 8 < xs.length
      · rw [if_pos h3, if_pos (by omega)]
        rfl
      · rw [if_neg h3, if_neg (by omega)]
theorem top_bit : ∀ z : Fin 256, z.val ≠ 0 -> Lib.bitLen z.val <= 8 /\ 0 < Lib.bitLen z.val /\ (∀ j : Fin 8, j.val < 8 - Lib.bitLen z.val -> z.val.testBit (7 - j.val) = false) /\ z.val.testBit (Lib.bitLen z.val - 1) = true := by decide +kernel
theorem bitX_test (x : Nat) (j : Nat) : bitX (x : Int) j = ((x.testBit (7 - j)).toNat : Int) := by
  unfold bitX
  rw [Nat.toNat_testBit]
  norm_cast
theorem xor_nat (x y : Nat) (hx : x < 256) (hy : y < 256) : (Go.bits .xor .u8 (x : Int) (y : Int)).toNat = x ^^^ y := by
  rw [u8_xor_nat x y hx hy]
  exact Int.toNat_natCast _
theorem byte_part (x y : Int) (hx : 0 <= x /\ x <= 255) (hy : 0 <= y /\ y <= 255) (h : x ≠ y) : ∃ d : Nat, d < 8 /\ (8 - (Lib.bitLen (Go.bits .xor .u8 x y).toNat : Int)) = (d : Int) /\ (∀ j, j < d -> bitX x j = bitX y j) /\ bitX x d ≠ bitX y d := by
  obtain ⟨a, rfl⟩ := Int.eq_ofNat_of_zero_le hx.1
  obtain ⟨b, rfl⟩ := Int.eq_ofNat_of_zero_le hy.1
  rw [xor_nat a b (by omega) (by omega)]
  have hz : a ^^^ b < 256 := Nat.xor_lt_two_pow (n := 8) (by omega) (by omega)
  have hne : a ^^^ b ≠ 0 := fun he => h (by
    have : a = b := Nat.eq_of_testBit_eq (fun i => by
      have h0 := congrArg (fun q : Nat => q.testBit i) he
      simp only [Nat.testBit_xor, Nat.zero_testBit] at h0
      cases ha : a.testBit i <;> cases hb : b.testBit i <;> simp_all)
    rw [this])
  obtain ⟨h1, h2, h3, h4⟩ := top_bit ⟨a ^^^ b, hz⟩ hne
  simp only at h1 h2 h3 h4
  refine ⟨8 - Lib.bitLen (a ^^^ b), by omega, by omega, fun j hj => ?_, ?_⟩
  · have := h3 ⟨j, by omega⟩ hj
    simp only [Nat.testBit_xor] at this
    rw [bitX_test, bitX_test]
    cases ha : a.testBit (7 - j) <;> cases hb : b.testBit (7 - j) <;> simp_all
  · rw [show Lib.bitLen (a ^^^ b) - 1 = 7 - (8 - Lib.bitLen (a ^^^ b)) by omega] at h4
    rw [bitX_test, bitX_test]
    simp only [Nat.testBit_xor] at h4
    cases ha : a.testBit (7 - (8 - Lib.bitLen (a ^^^ b))) <;> cases hb : b.testBit (7 - (8 - Lib.bitLen (a ^^^ b))) <;> simp_all
theorem bcommon_spec : ∀ (a b : List Int), BytesOk a -> BytesOk b -> ∃ m : Nat, bcommon a b = (m : Int) /\ m <= 8 * min a.length b.length /\ (∀ i, i < m -> bitN a i = bitN b i /\ 0 <= bitN a i) /\ (bitN a m < 0 \/ bitN a m ≠ bitN b m)
  | [], b, _, _ => ⟨0, rfl, by simp, fun i h => absurd h (by omega), .inl (by simp [bitN])⟩
  | x :: xs, [], _, _ => ⟨0, rfl, by simp, fun i h => absurd h (by omega), .inr (by
      have := (bitX_range x 0).1
      simp only [bitN]
      rw [if_pos (by omega)]
      omega)⟩
  | x :: xs, y :: ys, ha, hb => by
    have hx := ha x (by simp)
    have hy := hb y (by simp)
    by_cases he : x = y
    · subst he
      obtain ⟨m, h1, h2, h3, h4⟩ := bcommon_spec xs ys (fun z hz => ha z (List.mem_cons_of_mem _ hz)) (fun z hz => hb z (List.mem_cons_of_mem _ hz))
      refine ⟨8 + m, ?_, ?_, fun i hi => ?_, ?_⟩
      · unfold bcommon
        rw [if_pos rfl, h1]
        omega
      · simp only [List.length_cons]
        omega
      · unfold bitN
        by_cases h8 : i < 8
        · rw [if_pos h8, if_pos h8]
          exact ⟨rfl, (bitX_range _ _).1⟩
        · rw [if_neg h8, if_neg h8]
          exact h3 (i - 8) (by omega)
      · unfold bitN
        rw [if_neg (by omega), if_neg (by omega), show 8 + m - 8 = m by omega]
        exact h4
    · obtain ⟨d, hd, h1, h2, h3⟩ := byte_part x y hx hy he
      refine ⟨d, ?_, ?_, fun i hi => ?_, ?_⟩
      · unfold bcommon
        rw [if_neg he, h1]
      · simp only [List.length_cons]
        omega
      · unfold bitN
        rw [if_pos (by omega), if_pos (by omega)]
        exact ⟨h2 i hi, (bitX_range _ _).1⟩
      · right
        unfold bitN
        rw [if_pos hd, if_pos hd]
        exact h3
theorem common_ge {a b : List Int} (ha : BytesOk a) (hb : BytesOk b) (n : Nat) : (n : Int) <= bcommon a b ↔ ∀ i, i < n -> bitN a i = bitN b i /\ 0 <= bitN a i := by
  obtain ⟨m, h1, h2, h3, h4⟩ := bcommon_spec a b ha hb
  rw [h1]
  constructor
  · intro h i hi
    exact h3 i (by omega)
  · intro h
    rcases Nat.lt_or_ge m n with hlt | hge
    · have := h m hlt
      rcases h4 with h4 | h4
      · omega
      · exact absurd this.1 h4
    · omega
theorem and1_byte : ∀ x : Fin 256, Go.bits .and .i64 (x.val : Int) 1 = (x.val : Int) % 2 := by decide +kernel
theorem shr_byte : ∀ (x : Fin 256) (s : Fin 8), shr .u8 (x.val : Int) (s.val : Int) = (x.val : Int) / 2 ^ s.val := by decide +kernel
theorem andP_byte : ∀ (x : Fin 256) (j : Fin 8), (if Go.bits .and .u8 (x.val : Int) (shr .u8 128 (j.val : Int)) = 0 then (0 : Int) else 1) = (x.val : Int) / 2 ^ (7 - j.val) % 2 := by decide +kernel
theorem rd_nat (l : List Int) (i : Nat) : rd l (i : Int) = l.getD i 0 := by unfold rd; rw [Int.toNat_natCast]
theorem bitN_eq (l : List Int) (i : Nat) (h : i / 8 < l.length) : bitN l i = l.getD (i / 8) 0 / 2 ^ (7 - i % 8) % 2 := by
  rw [bitN_at, if_pos h]
  rfl
theorem bitN_off (l : List Int) (i : Nat) (h : l.length <= i / 8) : bitN l i = -1 := by
  rw [bitN_at, if_neg (by omega)]
theorem bitP_eq (l : List Int) (hb : BytesOk l) (i : Nat) : bitP l (i : Int) = bitN l i := by
  unfold bitP bits_Bit.f
  rw [if_neg (by omega)]
  have hd : (i : Int) / 8 = ((i / 8 : Nat) : Int) := by omega
  rw [hd]
  by_cases h : l.length <= i / 8
  · rw [decide_eq_true (by omega), bitN_off l i h]
    rfl
  · rw [decide_eq_false (by omega), bitN_eq l i (by omega)]
    simp only [bits_Bit.j0]
    rw [if_neg (by simp), hd, if_pos (by omega), if_pos (by omega), and7, if_pos (by omega), rd_nat]
    have hx := BytesOk.get hb (i / 8)
    have h8 := andP_byte ⟨(l.getD (i / 8) 0).toNat, by omega⟩ ⟨i % 8, by omega⟩
    simp only [Int.toNat_of_nonneg hx.1] at h8
    have hm : (i : Int) % 8 = ((i % 8 : Nat) : Int) := by omega
    rw [hm]
    rw [<- h8]
    split <;> rfl
theorem rbit_f (l : List Int) (hb : BytesOk l) (i : Nat) (hi : i <= 1000000000) : annalsref03_Bit.f l (i : Int) = some (bitN l i) := by
  unfold annalsref03_Bit.f
  have hd : wrap64 (Int.tdiv (i : Int) 8) = ((i / 8 : Nat) : Int) := by
    rw [Int.tdiv_eq_ediv_of_nonneg (by omega), wrap64_id _ (by omega)]
    omega
  have hm : wrap64 (7 - Int.tmod (i : Int) 8) = ((7 - i % 8 : Nat) : Int) := by
    rw [Int.tmod_eq_emod_of_nonneg (by omega), wrap64_id _ (by omega)]
    omega
  rw [hd, hm, if_neg (by omega)]
  by_cases h : l.length <= i / 8
  · rw [if_pos (by omega), bitN_off l i h]
  · rw [if_neg (by omega), if_pos (by omega), if_pos (by omega), if_pos (by omega), bitN_eq l i (by omega), rd_nat]
    have hx := BytesOk.get hb (i / 8)
    have h1 := shr_byte ⟨(l.getD (i / 8) 0).toNat, by omega⟩ ⟨7 - i % 8, by omega⟩
    simp only [Int.toNat_of_nonneg hx.1] at h1
    rw [h1]
    obtain ⟨z, hz⟩ : ∃ z, z = l.getD (i / 8) 0 / 2 ^ (7 - i % 8) := ⟨_, rfl⟩
    rw [<- hz]
    have hz0 : 0 <= z /\ z <= 255 := by
      have hp : (0 : Int) < 2 ^ (7 - i % 8) := Int.pow_pos (by omega)
      rw [hz]
      refine ⟨Int.ediv_nonneg hx.1 (Int.le_of_lt hp), Int.le_trans (Int.ediv_le_self _ hx.1) hx.2⟩
    rw [wrap64_id _ (by omega)]
    have h2 := and1_byte ⟨z.toNat, by omega⟩
    simp only [Int.toNat_of_nonneg hz0.1] at h2
    rw [h2]
theorem rcommon_l (a b : List Int) (ha : BytesOk a) (hb : BytesOk b) (m : Nat) (hm : m <= 1000000) (h3 : ∀ i, i < m -> bitN a i = bitN b i /\ 0 <= bitN a i) (h4 : bitN a m < 0 \/ bitN a m ≠ bitN b m) : ∀ (d i k : Nat), i + d = m -> d < k -> annalsref03_Common.l0 k a b (i : Int) = some (m : Int)
  | 0, i, k, hi, hk => by
    obtain ⟨k, rfl⟩ : ∃ j, k = j + 1 := ⟨k - 1, by omega⟩
    obtain rfl : i = m := by omega
    simp only [annalsref03_Common.l0]
    rw [rbit_f a ha i (by omega), rbit_f b hb i (by omega)]
    simp only [Option.bind_some]
    rcases h4 with h4 | h4
    · rw [if_neg (by omega)]
    · by_cases h0 : bitN a i >= 0
      · rw [if_pos h0, if_neg h4]
      · rw [if_neg h0]
  | d + 1, i, k, hi, hk => by
    obtain ⟨k, rfl⟩ : ∃ j, k = j + 1 := ⟨k - 1, by omega⟩
    have h := h3 i (by omega)
    simp only [annalsref03_Common.l0]
    rw [rbit_f a ha i (by omega), rbit_f b hb i (by omega)]
    simp only [Option.bind_some]
    rw [if_pos h.2, if_pos h.1, wrap64_id _ (by omega), show (i : Int) + 1 = ((i + 1 : Nat) : Int) by omega]
    exact rcommon_l a b ha hb m hm h3 h4 d (i + 1) k (by omega) (by omega)
theorem rcommon_f (a b : List Int) (ha : BytesOk a) (hb : BytesOk b) (hl : a.length <= 100000) (k : Nat) (hk : 8 * a.length < k) : annalsref03_Common.f k a b = some (bcommon a b) := by
  obtain ⟨m, h1, h2, h3, h4⟩ := bcommon_spec a b ha hb
  rw [h1]
  exact rcommon_l a b ha hb m (by omega) h3 h4 m 0 k (by omega) (by omega)
theorem cut_bit : ∀ (o : Fin 8) (x : Fin 256) (j : Fin 8), j.val < o.val -> Go.bits .and .u8 (x.val : Int) (255 * 2 ^ (8 - o.val) % 256) / 2 ^ (7 - j.val) % 2 = (x.val : Int) / 2 ^ (7 - j.val) % 2 := by decide +kernel
theorem getD_take (l : List Int) (m j : Nat) (h : j < m) : (l.take m).getD j 0 = l.getD j 0 := by
  rw [List.getD_eq_getElem?_getD, List.getD_eq_getElem?_getD, List.getElem?_take, if_pos h]
theorem bitN_first (l : List Int) (hb : BytesOk l) (n : Nat) (h1 : 1 <= n) (hn : n <= 8 * l.length) (i : Nat) (hi : i < n) : bitN (firstB l (n : Int)) i = bitN l i := by
  unfold firstB
  by_cases h8 : 8 * (l.length : Int) <= (n : Int)
  · rw [if_pos h8]
  rw [if_neg h8, if_neg (by omega), Int.toNat_natCast]
  obtain ⟨m, hm⟩ : ∃ m, m = bitBytes n := ⟨_, rfl⟩
  have hm' : m = (n - 1) / 8 + 1 := hm
  have htl : (l.take m).length = m := by rw [List.length_take]; omega
  have hil : i / 8 < l.length := by omega
  unfold firstBits
  rw [<- hm]
  by_cases h0 : n % 8 = 0
  · rw [if_pos h0, bitN_eq _ i (by rw [htl]; omega), bitN_eq l i hil, getD_take l m _ (by omega)]
  · rw [if_neg h0, bitN_eq _ i (by rw [List.length_set, htl]; omega), bitN_eq l i hil]
    rw [List.getD_eq_getElem?_getD, List.getElem?_set]
    by_cases hj : m - 1 = i / 8
    · rw [if_pos hj, if_pos (by rw [htl]; omega)]
      simp only [Option.getD_some]
      rw [hj, getD_take l m _ (by omega)]
      have hx := BytesOk.get hb (i / 8)
      have hc := cut_bit ⟨n % 8, by omega⟩ ⟨(l.getD (i / 8) 0).toNat, by omega⟩ ⟨i % 8, by omega⟩ (by simp only; omega)
      simp only [Int.toNat_of_nonneg hx.1] at hc
      unfold cutByte
      rw [show (8 - ((n % 8 : Nat) : Int)).toNat = 8 - n % 8 by omega]
      exact hc
    · rw [if_neg hj, <- List.getD_eq_getElem?_getD, getD_take l m _ (by omega)]
theorem begins_first (l p : List Int) (hl : BytesOk l) (hp : BytesOk p) (n : Nat) (h1 : 1 <= n) (h2 : n <= 8 * l.length) (h3 : n <= 8 * p.length) : ((n : Int) <= bcommon (firstB l (n : Int)) (firstB p (n : Int))) ↔ ((n : Int) <= bcommon l p) := by
  rw [common_ge (firstB_ok l hl _) (firstB_ok p hp _), common_ge hl hp]
  constructor
  · intro h i hi
    have := h i hi
    rwa [bitN_first l hl n h1 h2 i hi, bitN_first p hp n h1 h3 i hi] at this
  · intro h i hi
    rw [bitN_first l hl n h1 h2 i hi, bitN_first p hp n h1 h3 i hi]
    exact h i hi
theorem rbegins_f (l p : List Int) (hl : BytesOk l) (hp : BytesOk p) (n : Int) (h1 : l.length <= 100000) (h2 : p.length <= 100000) (hn : n <= 9223372036854775807) (k : Nat) (hk : 1000000 <= k) : annalsref03_Begins.f k l p n = some (beginsB l p n) := by
  unfold annalsref03_Begins.f beginsB
  by_cases h0 : n < 1
  · rw [if_pos h0, if_pos h0]
  rw [if_neg h0, if_neg h0, wrap64_id (8 * (l.length : Int)) (by omega), wrap64_id (8 * (p.length : Int)) (by omega)]
  have hd : wrap64 (Int.tdiv n 8) = n / 8 := by
    rw [Int.tdiv_eq_ediv_of_nonneg (by omega), wrap64_id _ (by omega)]
  rw [hd]
  by_cases ha : n <= 8 * (l.length : Int)
  · rw [if_pos (by omega), if_pos ha]
    by_cases hb : n <= 8 * (p.length : Int)
    · obtain ⟨j, rfl⟩ := Int.eq_ofNat_of_zero_le (show 0 <= n by omega)
      rw [if_pos hb, if_pos (by omega), rfirst_f l hl _ (by omega) (by omega) k (by omega), rfirst_f p hp _ (by omega) (by omega) k (by omega)]
      simp only [Option.bind_some]
      have hfl := firstB_length l (j : Int)
      rw [rcommon_f _ _ (firstB_ok l hl _) (firstB_ok p hp _) (by omega) k (by omega)]
      simp only [Option.bind_some]
      have := begins_first l p hl hp j (by omega) (by omega) (by omega)
      by_cases hc : (j : Int) <= bcommon l p
      · rw [decide_eq_true (this.2 hc), decide_eq_true hc]
      · rw [decide_eq_false (fun hh => hc (this.1 hh)), decide_eq_false hc]
    · rw [if_neg hb, if_neg (by omega)]
  · have hmn : ¬ n <= 8 * ((min l.length p.length : Nat) : Int) := by omega
    rw [if_neg hmn, if_neg ha]
    split <;> rfl
theorem rbitP_f (l : List Int) (hb : BytesOk l) (a : Int) (ha : a <= 1000000000) : annalsref03_Bit.f l a = some (bitP l a) := by
  by_cases h : a < 0
  · unfold annalsref03_Bit.f bitP bits_Bit.f
    rw [if_pos h, if_pos h]
    rfl
  · obtain ⟨i, rfl⟩ := Int.eq_ofNat_of_zero_le (show 0 <= a by omega)
    rw [rbit_f l hb i (by omega), bitP_eq l hb i]
def wayT (row : List Int) : Int -> PT -> List Int × Int
  | i, .leaf n => ([], i)
  | i, .fork n l r => if beginsB row n.f5 n.f4 then (if bitP row n.f4 = 1 then (i :: (wayT row n.f8 r).1, (wayT row n.f8 r).2) else (i :: (wayT row n.f7 l).1, (wayT row n.f7 l).2)) else ([], i)
def wayO (row : List Int) (i : Int) : Option PT -> List Int × Int
  | none => ([], -1)
  | some t => wayT row i t
theorem way_meas {k n : Nat} (h : k < n) (hw : wrap64 ((k : Int) + 1) = ((k + 1 : Nat) : Int)) : n - (intOf (.int .i64 (wrap64 ((k : Int) + 1)))).toNat < n - (intOf (.int .i64 (k : Int))).toNat := cut_meas h hw
set_option maxHeartbeats 8000000 in
set_option maxRecDepth 100000 in
theorem way_calls {w : World} {base q : Nat} {size most : Int} {vl : Value} {X : Nat -> Prop} {cs : Cs} (h : RefM w base q size most vl X cs) (hcs : CsOk cs) (root : Int) (A : Option Addr) (c : Nat) (row : List Int) (hr : Kd.C (Kd.int .u8) w A row.length row) (hc : row.length <= c) (ho : BytesOk row) (hrl : row.length <= 256) (hos : ∀ n, some n ∈ cs -> BytesOk n.f5) (t0 : Option PT) (ht0 : IsO cs root t0) (hh : (wayO row root t0).1.length <= 8 * row.length) (hf4 : ∀ n, some n ∈ cs -> n.f4 <= 9223372036854775807) :
    Calls Tryd.prog 61 #[.pointer (some ⟨q, 0, none⟩), .int .i64 root, .slice A row.length c] w fun e w' => ∃ (Af : Option Addr) (nf cf : Nat), e = .returned (.tuple #[.slice Af nf cf, .int .i64 (wayO row root t0).2]) /\ Kd.R (Kd.int .i64) 3 w' w.heap.size (fun _ => True) (.slice Af nf cf) (wayO row root t0).1 /\ Below w.heap.size w w' := by
  have HA := z_ h
  have HCS := z_ hcs
  have HRW := z_ (show Kd.C (Kd.int .u8) w A row.length row /\ row.length <= c /\ BytesOk row /\ row.length <= 256 from ⟨hr, hc, ho, hrl⟩)
  have HOS := z_ hos
  have HF4 := z_ hf4
  obtain ⟨nb, hnb⟩ : ∃ nb, nb = 8 * row.length + 1 := ⟨_, rfl⟩
  have hw1 : wrap64 (8 * (row.length : Int)) = 8 * (row.length : Int) := wrap64_id _ (by omega)
  have hw2 : wrap64 (8 * (row.length : Int) + 1) = (nb : Int) := by rw [wrap64_id _ (by omega)]; omega
  have HNB := z_ (show nb <= 2049 /\ (wayO row root t0).1.length < nb /\ row.length <= 256 from ⟨by omega, by omega, hrl⟩)
  have HT0 := z_ ht0
  clear h hcs hr hc ho hrl hos ht0 hh hnb hf4
  go_enter Tryd.func61, Tryd.ntmps61
  go_wp2_with fail
  have HW2 := z_ hw2
  clear hw1 hw2
  go_loopw [8, 9, 17] (fun v8 v9 v17 wr => ∃ (k : Nat) (i : Int) (t : Option PT) (Af : Option Addr) (nf cf : Nat) (fs : List Int), v8 = .slice Af nf cf /\ v9 = .int .i64 i /\ v17 = .int .i64 (k : Int) /\ Aside0 (k = fs.length /\ IsO cs i t /\ k + (wayO row i t).1.length <= (wayO row root t0).1.length /\ wayO row root t0 = (fs ++ (wayO row i t).1, (wayO row i t).2)) /\ Aside0 (Kd.R (Kd.int .i64) 3 wr w.heap.size (fun _ => True) (.slice Af nf cf) fs) /\ Aside0 (Below w.heap.size w wr)) (fun _ _ v17 _ => nb - (intOf v17).toNat)
  case atStart => exact ⟨0, root, t0, none, 0, 0, [], rfl, rfl, rfl, ⟨rfl, HT0.out, by omega, rfl⟩, ⟨Kd.R_nil _ _ _ _ _⟩, ⟨Below.refl _ _⟩⟩
  case round =>
    obtain ⟨k, i, t, Af, nf, cf, fs, rfl, rfl, rfl, HT, HR, HB⟩ := hrel
    have HK := z_ (show k < nb from by have := HT.out.2.2.1; have := HNB.out.2.1; omega)
    have hd : decide ((k : Int) < (nb : Int)) = true := decide_eq_true (by have := HK.out; omega)
    have hd3 : decide ((k : Int) < wrap64 (8 * (row.length : Int) + 1)) = true := by rw [HW2.out]; exact hd
    clear hd
    go_wp2_with fail
    refine (rnode_calls (HA.out.below HB.out) i (fun n hn => (HCS.out.at i n hn).1)).mono ?_
    rintro e w4 ⟨hN, hb⟩
    have HB4 := z_ hb
    clear hb
    cases t with
    | none =>
      rw [show nodeAt cs i = none from HT.out.2.1] at hN
      obtain rfl : e = .returned (.tuple #[.agg zeroR.toArray, .bool false]) := hN
      unfold zeroR
      go_wp2_with fail
      go_ret2
      have he := HT.out.2.2.2
      refine ⟨Af, nf, cf, ?_, ?_, below_alloc (below_step HB.out HB4.out) _⟩
      · rw [he]
        rfl
      · rw [he]
        show Kd.R _ _ _ _ _ _ (fs ++ [])
        rw [List.append_nil]
        exact Kd.R_alloc (Kd.R_below HR.out HB4.out) _
    | some t =>
      have hat : ∃ n, nodeAt cs i = some n := by
        have := HT.out.2.1
        cases t with
        | leaf n => exact ⟨n, this.1⟩
        | fork n l r => exact ⟨n, this.1⟩
      obtain ⟨n, hn⟩ := hat
      have HNA := z_ hn
      rw [hn] at hN
      obtain ⟨D1, D2, D5, D9, d1, d2, d5, d9, rfl, x1, x2, x5, x9⟩ := hN
      have HV5 := z_ x5
      clear x1 x2 x5 x9 hn
      obtain ⟨b0, hb0⟩ : ∃ b0, n.f0 = b0 := ⟨_, rfl⟩
      rw [hb0]
      have HB0 := z_ hb0
      clear hb0
      obtain ⟨w5, hw5⟩ : ∃ w5, w5 = w4.alloc (.cells #[.bool b0, .slice D1 n.f1.length d1, .slice D2 n.f2.length d2, .int .i64 n.f3, .int .i64 n.f4, .slice D5 n.f5.length d5, .int .i64 n.f6, .int .i64 n.f7, .int .i64 n.f8, .slice D9 n.f9.length d9] 39) := ⟨_, rfl⟩
      have HB5 := z_ (show Below w4.heap.size w4 w5 from by rw [hw5]; exact below_alloc (Below.refl _ _) _)
      have HN5 := z_ (show NdB w5 w4.heap.size [.bool b0, .slice D1 n.f1.length d1, .slice D2 n.f2.length d2, .int .i64 n.f3, .int .i64 n.f4, .slice D5 n.f5.length d5, .int .i64 n.f6, .int .i64 n.f7, .int .i64 n.f8, .slice D9 n.f9.length d9] from by rw [hw5]; exact heap_alloc_new w4 _)
      obtain ⟨m0, m1, m2, m3, m4, m5, m6, m7, m8, m9⟩ := (show NdB (w4.alloc (.cells #[.bool b0, .slice D1 n.f1.length d1, .slice D2 n.f2.length d2, .int .i64 n.f3, .int .i64 n.f4, .slice D5 n.f5.length d5, .int .i64 n.f6, .int .i64 n.f7, .int .i64 n.f8, .slice D9 n.f9.length d9] 39)) w4.heap.size [.bool b0, .slice D1 n.f1.length d1, .slice D2 n.f2.length d2, .int .i64 n.f3, .int .i64 n.f4, .slice D5 n.f5.length d5, .int .i64 n.f6, .int .i64 n.f7, .int .i64 n.f8, .slice D9 n.f9.length d9] from heap_alloc_new w4 _).cells
      have HR5 := z_ (Kd.R_below (Kd.R_below HR.out HB4.out) HB5.out)
      have HBL5 := z_ (below_step (below_step HB.out HB4.out) HB5.out)
      cases b0 with
      | true =>
        go_wp2_with fail
        rw [<- hw5]
        go_ret2
        have he := HT.out.2.2.2
        have hw : wayO row i (some t) = ([], i) := by
          have hT := HT.out.2.1
          have hna := HNA.out
          have hb0 := HB0.out
          cases t with
          | leaf m => rfl
          | fork m l r =>
            obtain rfl : m = n := Option.some.inj (hT.1.symm.trans hna)
            rw [hT.2.1] at hb0
            cases hb0
        rw [hw] at he
        refine ⟨Af, nf, cf, ?_, ?_, HBL5.out⟩
        · rw [he]
          rfl
        · rw [he]
          show Kd.R _ _ _ _ _ _ (fs ++ [])
          rw [List.append_nil]
          exact HR5.out
      | false =>
        go_wp2_with fail
        rw [<- hw5]
        clear m0 m1 m2 m3 m4 m5 m6 m7 m8 m9 hw5
        obtain ⟨g9, hg9⟩ : ∃ g9, g9 = w4.heap.size := ⟨_, rfl⟩
        rw [<- hg9] at HN5
        rw [<- hg9]
        clear hg9
        obtain ⟨bg, hbg⟩ : ∃ bg, bg = beginsB row n.f5 n.f4 := ⟨_, rfl⟩
        have HBG0 := z_ hbg
        have HNM := z_ (nodeAt_mem HNA.out)
        refine (annalsref03_Begins.calls 1000000 A c row D5 d5 n.f5 n.f4 bg w5 (Kd.C_below HRW.out.1 HBL5.out) HRW.out.2.1 (Kd.V_reads' (Kd.V_below HV5.out HB5.out)).2.2 (Kd.V_reads' HV5.out).2.1 (by rw [hbg]; exact rbegins_f row n.f5 HRW.out.2.2.1 (HOS.out n HNM.out) n.f4 (by have := HRW.out.2.2.2; omega) (by have := (HCS.out n HNM.out).1.2.2.1; omega) (HF4.out n HNM.out) 1000000 (Nat.le_refl _))).mono ?_
        rintro e w6 ⟨rfl, hb6⟩
        have HN6 := z_ (HN5.out.below hb6)
        have HR6 := z_ (Kd.R_below HR5.out hb6)
        have HBL6 := z_ (below_step HBL5.out hb6)
        clear hb6 hbg
        cases bg with
        | false =>
          have HBG := z_ (show beginsB row n.f5 n.f4 = false from HBG0.out.symm)
          go_wp2_with fail
          go_ret2
          have he := HT.out.2.2.2
          have hw : wayO row i (some t) = ([], i) := by
            have hT := HT.out.2.1
            have hna := HNA.out
            have hb0 := HB0.out
            cases t with
            | leaf m => rfl
            | fork m l r =>
              obtain rfl : m = n := Option.some.inj (hT.1.symm.trans hna)
              show (if beginsB row m.f5 m.f4 then _ else _) = _
              rw [if_neg (by rw [HBG.out]; simp)]
          rw [hw] at he
          refine ⟨Af, nf, cf, ?_, ?_, HBL6.out⟩
          · rw [he]
            rfl
          · rw [he]
            show Kd.R _ _ _ _ _ _ (fs ++ [])
            rw [List.append_nil]
            exact HR6.out
        | true =>
          have HBG := z_ (show beginsB row n.f5 n.f4 = true from HBG0.out.symm)
          obtain ⟨m0, m1, m2, m3, m4, m5, m6, m7, m8, m9⟩ := HN6.out.cells
          go_wp2_with ((at_builtin; go_must (refine Kd.R_append (Kd.int .i64) (w0 := w) w.heap.size rfl (.tmp 41) (.tmp 43) 32 3 (.int .i64 0) 8 rfl Tryd.underlying32 infoInt rfl (by decide) (by omega) (.slice Af nf cf) fs i [.int .i64 i] (fun _ => True) (fun _ => False) rfl rfl ?aP (fun _ hk => hk.elim) ?aF ?aO ?aB ?aS ?aL ?_; (case aP => exact rfl); (case aB => exact HBL6.out); (case aF => exact (fun _ _ => trivial)); (case aO => exact HR6.out); (case aS => exact HBL6.out.size); (case aL => have := HT.out.1; have := HK.out; have := HNB.out.1; omega); intro v1 w7 hR1 hb1 hg1 hat1; obtain ⟨A', m1, c', e'⟩ := formR hR1; subst e'; have HR7 := z_ hR1; have HB7 := z_ hb1; have HN7 := z_ (show NdB w7 g9 [.bool false, .slice D1 n.f1.length d1, .slice D2 n.f2.length d2, .int .i64 n.f3, .int .i64 n.f4, .slice D5 n.f5.length d5, .int .i64 n.f6, .int .i64 n.f7, .int .i64 n.f8, .slice D9 n.f9.length d9] from blk_grown HN6.out hg1 (Kd.R_ne HR6.out HN6.out (by decide))); have HCR7 := z_ (show Kd.C (Kd.int .u8) w7 A row.length row from Kd.C_below HRW.out.1 hb1); obtain ⟨n0, n1, n2, n3, n4, n5, n6, n7, n8, n9⟩ := HN7.out.cells; clear hR1 hb1 hg1 hat1)))
          have hf4 : n.f4 <= 1000000000 := by
            have h1 := HBG.out
            unfold beginsB at h1
            have := HRW.out.2.2.2
            split at h1
            · omega
            · split at h1
              · omega
              · cases h1
          refine (annalsref03_Bit.calls A c row n.f4 (bitP row n.f4) w7 HCR7.out HRW.out.2.1 (rbitP_f row HRW.out.2.2.1 n.f4 hf4)).mono ?_
          rintro e w8 ⟨rfl, hdr⟩
          have HB8 := z_ hdr.below
          have hN8 := HN7.out.below hdr.below
          obtain ⟨z0, z1, z2, z3, z4, z5, z6, z7, z8, z9⟩ := hN8.cells
          clear hdr hN8 hf4 m0 m2 m3 m4 m5 m6 m7 m8 m9 n0 n1 n2 n3 n4 n5 n6 n7 n8 n9
          have hkid : ∃ t', IsT cs (belowB n row) t' /\ t'.h < t.h /\ wayT row i t = (i :: (wayT row (belowB n row) t').1, (wayT row (belowB n row) t').2) := by
            have hT := HT.out.2.1
            have hna := HNA.out
            have hb0 := HB0.out
            cases t with
            | leaf m =>
              obtain rfl : m = n := Option.some.inj (hT.1.symm.trans hna)
              rw [hT.2] at hb0
              cases hb0
            | fork m l r =>
              obtain rfl : m = n := Option.some.inj (hT.1.symm.trans hna)
              unfold belowB
              by_cases hbit : bitP row m.f4 = 1
              · rw [if_pos hbit]
                refine ⟨r, hT.2.2.2, ?_, ?_⟩
                · show r.h < max l.h r.h + 1
                  omega
                · show (if beginsB row m.f5 m.f4 then (if bitP row m.f4 = 1 then _ else _) else _) = _
                  rw [if_pos HBG.out, if_pos hbit]
              · rw [if_neg hbit]
                refine ⟨l, hT.2.2.1, ?_, ?_⟩
                · show l.h < max l.h r.h + 1
                  omega
                · show (if beginsB row m.f5 m.f4 then (if bitP row m.f4 = 1 then _ else _) else _) = _
                  rw [if_pos HBG.out, if_neg hbit]
          obtain ⟨t', hkt, hkh, hkf⟩ := hkid
          have hrel' : fs.length + 1 = (fs ++ [i]).length /\ IsO cs (belowB n row) (some t') /\ (k + 1) + (wayO row (belowB n row) (some t')).1.length <= (wayO row root t0).1.length /\ wayO row root t0 = ((fs ++ [i]) ++ (wayO row (belowB n row) (some t')).1, (wayO row (belowB n row) (some t')).2) := by
            refine ⟨by simp, hkt, ?_, ?_⟩
            · have h1 := HT.out.2.2.1
              have h2 : (wayO row i (some t)).1.length = (wayT row (belowB n row) t').1.length + 1 := by
                show (wayT row i t).1.length = _
                rw [hkf]
                simp
              show k + 1 + (wayT row (belowB n row) t').1.length <= _
              omega
            · rw [HT.out.2.2.2]
              show (fs ++ (wayT row i t).1, (wayT row i t).2) = _
              rw [hkf]
              simp [wayO]
          have HREL := z_ hrel'
          have HR8 := z_ (Kd.R_below HR7.out HB8.out)
          have HBL8 := z_ (below_step HB7.out HB8.out)
          clear hkt hkh hkf hrel'
          by_cases hbit : bitP row n.f4 = 1
          · have hb1 : (bitP row n.f4 == 1) = true := by rw [hbit]; rfl
            have HBB := z_ (show n.f8 = belowB n row from by unfold belowB; rw [if_pos hbit])
            clear hbit
            go_wp2_with fail
            have hw1' : wrap64 ((k : Int) + 1) = ((k + 1 : Nat) : Int) := by have := HK.out; have := HNB.out.1; rw [wrap64_id _ (by omega)]; omega
            have hmeas := way_meas (k := k) (n := nb) HK.out hw1'
            go_roundw
            case measure => exact hmeas
            case rel => exact ⟨k + 1, belowB n row, some t', A', m1, c', fs ++ [i], rfl, by rw [HBB.out], by rw [hw1'], ⟨by have h1 := HREL.out.1; have h2 := HT.out.1; omega, HREL.out.2.1, HREL.out.2.2.1, HREL.out.2.2.2⟩, HR8, HBL8⟩
          · have hb1 : (bitP row n.f4 == 1) = false := by simpa using hbit
            have HBB := z_ (show n.f7 = belowB n row from by unfold belowB; rw [if_neg hbit])
            clear hbit
            go_wp2_with fail
            have hw1' : wrap64 ((k : Int) + 1) = ((k + 1 : Nat) : Int) := by have := HK.out; have := HNB.out.1; rw [wrap64_id _ (by omega)]; omega
            have hmeas := way_meas (k := k) (n := nb) HK.out hw1'
            go_roundw
            case measure => exact hmeas
            case rel => exact ⟨k + 1, belowB n row, some t', A', m1, c', fs ++ [i], rfl, by rw [HBB.out], by rw [hw1'], ⟨by have h1 := HREL.out.1; have h2 := HT.out.1; omega, HREL.out.2.1, HREL.out.2.2.1, HREL.out.2.2.2⟩, HR8, HBL8⟩
theorem IsT.node {cs : Cs} {i : Int} {t : PT} (h : IsT cs i t) : ∃ n, nodeAt cs i = some n := by
  cases t with
  | leaf n => exact ⟨n, h.1⟩
  | fork n l r => exact ⟨n, h.1⟩
theorem way_find (cs : Cs) (row id : List Int) : ∀ (t : PT) (i : Int), IsT cs i t ->
    (findT row id i t).at_ = (wayT row i t).2 /\ (wayT row i t).1.map (nodeAt cs) = (findT row id i t).forks.map some /\ nodeAt cs (findT row id i t).at_ = some (findT row id i t).node /\
      (findT row id i t).same = ((findT row id i t).node.f0 && decide ((findT row id i t).node.f1 = id)) /\ (findT row id i t).forks.length <= t.h
  | .leaf n, i, h => by
    refine ⟨rfl, rfl, h.1, ?_, Nat.le_refl _⟩
    show decide (n.f1 = id) = (n.f0 && decide (n.f1 = id))
    rw [h.2, Bool.true_and]
  | .fork n l r, i, h => by
    unfold findT wayT
    by_cases hb : beginsB row n.f5 n.f4 = true
    · rw [if_pos hb, if_pos hb]
      by_cases hbit : bitP row n.f4 = 1
      · rw [if_pos hbit, if_pos hbit]
        obtain ⟨h1, h2, h3, h4, h5⟩ := way_find cs row id r n.f8 h.2.2.2
        refine ⟨h1, ?_, h3, h4, ?_⟩
        · show nodeAt cs i :: _ = some n :: _
          rw [h.1, h2]
        · show (findT row id n.f8 r).forks.length + 1 <= max l.h r.h + 1
          omega
      · rw [if_neg hbit, if_neg hbit]
        obtain ⟨h1, h2, h3, h4, h5⟩ := way_find cs row id l n.f7 h.2.2.1
        refine ⟨h1, ?_, h3, h4, ?_⟩
        · show nodeAt cs i :: _ = some n :: _
          rw [h.1, h2]
        · show (findT row id n.f7 l).forks.length + 1 <= max l.h r.h + 1
          omega
    · rw [if_neg hb, if_neg hb]
      refine ⟨rfl, rfl, h.1, ?_, Nat.zero_le _⟩
      show false = (n.f0 && decide (n.f1 = id))
      rw [h.2.1, Bool.false_and]
end Go.Proofs.YtdeneoknjeegbaaDoor.P
end
