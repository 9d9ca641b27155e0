/- Lemmas of this claim, part 3. -/
import Derived.Test.YteamljekjncbfaaDoorPartSeekAny2
import Derived.Lib.ItoaNum
section
namespace Go.Proofs.YteamljekjncbfaaDoor.P
open Go.RowKit Go.Proofs.YteamljekjncbfaaDoorW.PrintWords Go.Proofs.YteamljekjncbfaaDoorW.PrintLast Go.Proofs.YteamljekjncbfaaDoorW.PrintMore
attribute [local go_sem] max2_int min2_int max_two min_two max_three min_three max_four min_four
set_option linter.unusedVariables false
set_option linter.unusedSimpArgs false
def annalsref14_Next.l0 : Nat → Int → Int → List Int → Int → Int → Option (Int)
  | 0, _, _, _, _, _ => none
  | k + 1, x1, x5, x13, x14, x15 => if x15 < x14 then (if 0 ≤ x15 then (if x15 < (x13.length : Int) then (if (rd x13 x15) ≥ x1 then (annalsref14_Next.l0 k x1 (rd x13 x15) x13 x14 (wrap64 (x15 + 1))) else (annalsref14_Next.l0 k x1 x5 x13 x14 (wrap64 (x15 + 1)))) else (none)) else (none)) else (some x5)
def annalsref14_Next.f (k : Nat) (a0 : Int) (a1 : Int) : Option (Int) := if a1 < 0 then (some a0) else ((annalsref14_Links.f k a0).bind fun t349 => (annalsref14_Next.l0 k a1 a0 t349 (t349.length : Int) 0))
set_option maxHeartbeats 8000000 in
set_option maxRecDepth 100000 in
theorem annalsref14_Next.calls (k : Nat) (a0 : Int) (a1 : Int) (r : Int) (w : World) (h : annalsref14_Next.f k a0 a1 = some r) :
    Calls Tryd.prog 17 #[.int .i64 a0, .int .i64 a1] w fun e w' => e = .returned (.int .i64 r) ∧ Below w.heap.size w w' := by
  have HB := Aside0.mk (Below.refl w.heap.size w)
  have H : (if a1 < 0 then (some a0) else ((annalsref14_Links.f k a0).bind fun t349 => (annalsref14_Next.l0 k a1 a0 t349 (t349.length : Int) 0))) = some r := h
  clear h
  by_cases c3 : a1 < 0
  · rw [if_pos c3] at H
    have c3b0 : decide (a1 < 0) = true := decide_eq_true c3
    clear c3
    obtain rfl := Option.some.inj H
    go_enter Tryd.func17, Tryd.ntmps17
    go_wp2
    go_ret
    exact ⟨by first | rfl | (simp [errW_none, errW_some] <;> rfl) | (simp [*, errW_none, errW_some] <;> rfl), by repeat (first | (with_reducible first | exact HB.out | apply below_alloc | apply pw_below_drewN | apply below_drew1) | exact HB.out)⟩
  · rw [if_neg c3] at H
    have c3b0 : decide (a1 < 0) = false := decide_eq_false c3
    clear c3
    replace H := Option.bind_eq_some_iff.mp H
    obtain ⟨t349, A40, H⟩ := H
    replace H : (annalsref14_Next.l0 k a1 a0 t349 (t349.length : Int) 0) = some r := H
    have A4 := Aside0.mk A40
    clear A40
    have H' := Aside0.mk H
    clear H
    go_enter Tryd.func17, Tryd.ntmps17
    go_wp2_with (first | ((with_reducible refine gate_callee (f := 15) rfl ?_); refine goesL_ (some 13) rfl rfl Tryd.func15 (by kernel_rfl) rfl #[.int .i64 a0] rfl (by (try simp only [List.map_toArray, List.map_cons, List.map_nil]); first | done | rfl | (simp only [List.length_drop, List.length_take]; rfl)) ?_; (with_reducible refine (annalsref14_Links.calls k a0 t349 _ A4.out).mono ?_); rintro e w5 ⟨v350, rfl, ho0, hb⟩; refine ⟨_, rfl, ?_⟩; have n0_ := Aside0.mk (Kd.R_lower ho0 (below_size (by repeat (first | (with_reducible first | exact HB.out | apply below_alloc | apply pw_below_drewN | apply below_drew1) | exact HB.out)))); have n1_ := Aside0.mk (below_step (by repeat (first | (with_reducible first | exact HB.out | apply below_alloc | apply pw_below_drewN | apply below_drew1) | exact HB.out)) hb); clear HB; have HO351 := n0_; have HB := n1_; clear n0_ n1_; (try clear hb); (try clear hb2); (try clear hk); (try clear hi); (try clear ho0); obtain ⟨Ao6, co6, eo6⟩ := Kd.R_slice HO351.out; subst eo6))
    go_loopg [5, 15] k (fun kq v5 v15 w' => ∃ (x5_1 : Int) (x15_1 : Int), v5 = .int .i64 x5_1 ∧ v15 = .int .i64 x15_1 ∧ Aside0 (annalsref14_Next.l0 kq a1 x5_1 t349 (t349.length : Int) x15_1 = some r) ∧ Aside0 (kq ≤ k) ∧ Aside0 (Kd.R (Kd.int .i64) 3 w' w.heap.size (fun _ => True) (.slice Ao6 t349.length co6) t349) ∧ Aside0 (Below w.heap.size w w'))
    case atStart => exact ⟨(a0), (0), (by first | rfl | (simp; done) | (simp [*]; done)), (by first | rfl | (simp; done) | (simp [*]; done)), H', ⟨Nat.le_refl _⟩, ⟨by (with_reducible repeat (first | apply Kd.R_alloc | apply Kd.R_drewN | apply Kd.R_drew)); exact HO351.out⟩, ⟨by repeat (first | (with_reducible first | exact HB.out | apply below_alloc | apply pw_below_drewN | apply below_drew1) | exact HB.out)⟩⟩
    case round =>
      clear H'
      try clear c1
      try clear p2
      try clear c3
      try clear c3b0
      obtain ⟨x5_1, x15_1, rfl, rfl, HA, HK1, HO_13, HB⟩ := hrel
      cases gk with
      | zero => exact absurd HA.out (by simp [annalsref14_Next.l0])
      | succ k1 =>
        have H := HA.out
        clear HA
        simp only [annalsref14_Next.l0] at H
        by_cases c7 : x15_1 < (t349.length : Int)
        · rw [if_pos c7] at H
          have c7b0 : decide (x15_1 < (t349.length : Int)) = true := decide_eq_true c7
          clear c7
          by_cases c8 : 0 ≤ x15_1
          · rw [if_pos c8] at H
            have c8b0 : decide (0 ≤ x15_1) = true := decide_eq_true c8
            clear c8
            by_cases c9 : x15_1 < (t349.length : Int)
            · rw [if_pos c9] at H
              have c9b0 : decide (x15_1 < (t349.length : Int)) = true := decide_eq_true c9
              clear c9
              by_cases c10 : (rd t349 x15_1) ≥ a1
              · rw [if_pos c10] at H
                have c10b0 : decide (a1 ≤ (rd t349 x15_1)) = true := decide_eq_true c10
                clear c10
                have H' := Aside0.mk H
                clear H
                have p352 : 0 ≤ (x15_1 : Int) := of_decide_eq_true (by first | (with_reducible assumption) | assumption)
                have q352 : x15_1 < (t349.length : Int) := of_decide_eq_true (by first | (with_reducible assumption) | assumption)
                obtain ⟨ad352, e352, hx352_0⟩ := Kd.at_int (Kd.R_reads' HO_13.out).2.2 x15_1 p352 q352
                cases e352
                replace p352 := eq_true p352
                replace q352 := eq_true q352
                go_wp2
                go_roundg k1
                case measure => have := HK1.out; omega
                case rel => exact ⟨(rd t349 x15_1), (wrap64 (x15_1 + 1)), (by first | rfl | (simp; done) | (simp [*]; done)), (by first | rfl | (simp; done) | (simp [*]; done)), H', ⟨by have := HK1.out; omega⟩, ⟨by (with_reducible repeat (first | apply Kd.R_alloc | apply Kd.R_drewN | apply Kd.R_drew)); exact HO_13.out⟩, ⟨by repeat (first | (with_reducible first | exact HB.out | apply below_alloc | apply pw_below_drewN | apply below_drew1) | exact HB.out)⟩⟩
              · rw [if_neg c10] at H
                have c10b0 : decide (a1 ≤ (rd t349 x15_1)) = false := decide_eq_false c10
                clear c10
                have H' := Aside0.mk H
                clear H
                have p352 : 0 ≤ (x15_1 : Int) := of_decide_eq_true (by first | (with_reducible assumption) | assumption)
                have q352 : x15_1 < (t349.length : Int) := of_decide_eq_true (by first | (with_reducible assumption) | assumption)
                obtain ⟨ad352, e352, hx352_0⟩ := Kd.at_int (Kd.R_reads' HO_13.out).2.2 x15_1 p352 q352
                cases e352
                replace p352 := eq_true p352
                replace q352 := eq_true q352
                go_wp2
                go_roundg k1
                case measure => have := HK1.out; omega
                case rel => exact ⟨(x5_1), (wrap64 (x15_1 + 1)), (by first | rfl | (simp; done) | (simp [*]; done)), (by first | rfl | (simp; done) | (simp [*]; done)), H', ⟨by have := HK1.out; omega⟩, ⟨by (with_reducible repeat (first | apply Kd.R_alloc | apply Kd.R_drewN | apply Kd.R_drew)); exact HO_13.out⟩, ⟨by repeat (first | (with_reducible first | exact HB.out | apply below_alloc | apply pw_below_drewN | apply below_drew1) | exact HB.out)⟩⟩
            · rw [if_neg c9] at H
              exact absurd H (by simp)
          · rw [if_neg c8] at H
            exact absurd H (by simp)
        · rw [if_neg c7] at H
          have c7b0 : decide (x15_1 < (t349.length : Int)) = false := decide_eq_false c7
          clear c7
          obtain rfl := Option.some.inj H
          go_wp2
          go_ret
          exact ⟨by first | rfl | (simp [errW_none, errW_some] <;> rfl) | (simp [*, errW_none, errW_some] <;> rfl), by repeat (first | (with_reducible first | exact HB.out | apply below_alloc | apply pw_below_drewN | apply below_drew1) | exact HB.out)⟩
end Go.Proofs.YteamljekjncbfaaDoor.P
end
section
namespace Go.Proofs.YteamljekjncbfaaDoor.P
open Go.RowKit Go.Proofs.YteamljekjncbfaaDoorW.PrintWords Go.Proofs.YteamljekjncbfaaDoorW.PrintLast Go.Proofs.YteamljekjncbfaaDoorW.PrintMore
attribute [local go_sem] max2_int min2_int max_two min_two max_three min_three max_four min_four
set_option linter.unusedVariables false
set_option linter.unusedSimpArgs false
mutual
def annalsref14_Way.j0 : Nat → Int → Int → Bool → Option (List Int)
  | 0, _, _, _ => none
  | k + 1, x0, x1, x16 => if x16 = true then (some ([] : List Int)) else (annalsref14_Way.l0 k x0 x1 ([] : List Int))
def annalsref14_Way.l0 : Nat → Int → Int → List Int → Option (List Int)
  | 0, _, _, _ => none
  | k + 1, x0, x1, x5 => if x0 > x1 then ((annalsref14_Next.f k x0 x1).bind fun t353 => (if x5.length < 17592186044416 then (annalsref14_Way.l0 k t353 x1 (x5 ++ [t353])) else (none))) else (some x5)
end
def annalsref14_Way.f (k : Nat) (a0 : Int) (a1 : Int) : Option (List Int) := if a1 < 0 then (annalsref14_Way.j0 k a0 a1 true) else (if a1 ≥ a0 then (annalsref14_Way.j0 k a0 a1 true) else (annalsref14_Way.j0 k a0 a1 (decide (a0 > 1048576))))
set_option maxHeartbeats 8000000 in
set_option maxRecDepth 100000 in
theorem annalsref14_Way.calls (k : Nat) (a0 : Int) (a1 : Int) (r : List Int) (w : World) (h : annalsref14_Way.f k a0 a1 = some r) :
    Calls Tryd.prog 19 #[.int .i64 a0, .int .i64 a1] w fun e w' => ∃ v0_ : Value, e = .returned (v0_) ∧ Kd.R (Kd.int .i64) 3 w' w.heap.size (fun _ => True) v0_ r ∧ Below w.heap.size w w' := by
  have HB := Aside0.mk (Below.refl w.heap.size w)
  have H : (if a1 < 0 then (annalsref14_Way.j0 k a0 a1 true) else (if a1 ≥ a0 then (annalsref14_Way.j0 k a0 a1 true) else (annalsref14_Way.j0 k a0 a1 (decide (a0 > 1048576))))) = some r := h
  clear h
  have HC3 := Aside0.mk H
  clear H
  go_enter Tryd.func19, Tryd.ntmps19
  go_upto_region 1 with (fail)
  go_cut [16] (fun v16 wc => ∃ (kq : Nat) (x16_2 : Bool), v16 = .bool x16_2 ∧ Aside0 (annalsref14_Way.j0 kq a0 a1 x16_2 = some r) ∧ Aside0 (kq ≤ k) ∧ Aside0 (Below w.heap.size w wc))
  case first =>
    have H := HC3.out
    clear HC3
    by_cases c4 : a1 < 0
    · rw [if_pos c4] at H
      have c4b0 : decide (a1 < 0) = true := decide_eq_true c4
      clear c4
      (first | rw [c4b0] | (simp only [i64_w, i32_w]; rw [c4b0]) | skip)
      have H' := Aside0.mk H
      clear H
      go_wp2
      go_meet
      case rel => exact ⟨_, (true), (by first | rfl | (simp; done) | (simp [*]; done)), H', ⟨by first | omega | exact Nat.le_refl _⟩, ⟨by repeat (first | (with_reducible first | exact HB.out | apply below_alloc | apply pw_below_drewN | apply below_drew1) | exact HB.out)⟩⟩
    · rw [if_neg c4] at H
      have c4b0 : decide (a1 < 0) = false := decide_eq_false c4
      clear c4
      (first | rw [c4b0] | (simp only [i64_w, i32_w]; rw [c4b0]) | skip)
      by_cases c5 : a1 ≥ a0
      · rw [if_pos c5] at H
        have c5b0 : decide (a0 ≤ a1) = true := decide_eq_true c5
        clear c5
        have H' := Aside0.mk H
        clear H
        go_wp2
        go_meet
        case rel => exact ⟨_, (true), (by first | rfl | (simp; done) | (simp [*]; done)), H', ⟨by first | omega | exact Nat.le_refl _⟩, ⟨by repeat (first | (with_reducible first | exact HB.out | apply below_alloc | apply pw_below_drewN | apply below_drew1) | exact HB.out)⟩⟩
      · rw [if_neg c5] at H
        have c5b0 : decide (a0 ≤ a1) = false := decide_eq_false c5
        clear c5
        have H' := Aside0.mk H
        clear H
        go_wp2
        go_meet
        case rel => exact ⟨_, (decide (a0 > 1048576)), (by first | rfl | (simp; done) | (simp [*]; done)), H', ⟨by first | omega | exact Nat.le_refl _⟩, ⟨by repeat (first | (with_reducible first | exact HB.out | apply below_alloc | apply pw_below_drewN | apply below_drew1) | exact HB.out)⟩⟩
  case rest =>
    clear HC3
    try clear c1
    try clear p2
    try clear c4
    try clear c4b0
    try clear c5
    try clear c5b0
    obtain ⟨kq, x16_2, rfl, HA, HJ2, HB⟩ := hcut
    cases kq with
    | zero => exact absurd HA.out (by simp [annalsref14_Way.j0])
    | succ kj2 =>
      have H := HA.out
      clear HA
      simp only [annalsref14_Way.j0] at H
      by_cases c6 : x16_2 = true
      · subst c6
        have H1 : (some ([] : List Int)) = some r := by rw [if_pos rfl] at H; exact H
        clear H
        have H := H1
        clear H1
        obtain rfl := Option.some.inj H
        go_wp2
        go_ret
        exact ⟨_, by first | rfl | (simp [errW_none, errW_some] <;> rfl) | (simp [*, errW_none, errW_some] <;> rfl), by first | exact Kd.R_nil _ _ _ _ _ | exact Kd.N_nil _ _ _ _ _ | exact Kd.V_nil _ _ _ _ _ | exact Kd.Q_nil _ _ _ _ _ | exact Kd.S_nil _ _ _ _ _, by repeat (first | (with_reducible first | exact HB.out | apply below_alloc | apply pw_below_drewN | apply below_drew1) | exact HB.out)⟩
      · replace c6 := Bool.eq_false_iff.mpr c6
        subst c6
        have H1 : (annalsref14_Way.l0 kj2 a0 a1 ([] : List Int)) = some r := by rw [if_neg (show ¬ (false = true) by decide)] at H; exact H
        clear H
        have H := H1
        clear H1
        have H' := Aside0.mk H
        clear H
        go_wp2
        go_loopg [0, 5] kj2 (fun kq v0 v5 w' => ∃ (x0_2 : Int) (x5_2 : List Int), v0 = .int .i64 x0_2 ∧ Aside0 (annalsref14_Way.l0 kq x0_2 a1 x5_2 = some r) ∧ Aside0 (kq ≤ kj2) ∧ Aside0 (Kd.R (Kd.int .i64) 3 w' w.heap.size (fun _ => True) v5 x5_2) ∧ Aside0 (Below w.heap.size w w'))
        case atStart => exact ⟨(a0), (([] : List Int)), (by first | rfl | (simp; done) | (simp [*]; done)), H', ⟨Nat.le_refl _⟩, ⟨by first | exact Kd.R_nil _ _ _ _ _ | exact Kd.N_nil _ _ _ _ _ | exact Kd.V_nil _ _ _ _ _ | exact Kd.Q_nil _ _ _ _ _ | exact Kd.S_nil _ _ _ _ _⟩, ⟨by repeat (first | (with_reducible first | exact HB.out | apply below_alloc | apply pw_below_drewN | apply below_drew1) | exact HB.out)⟩⟩
        case round =>
          clear H'
          try clear c1
          try clear p2
          try clear c4
          try clear c4b0
          try clear c5
          try clear c5b0
          try clear c6
          try clear p2
          obtain ⟨x0_2, x5_2, rfl, HA, HK2, HO_5, HB⟩ := hrel
          cases gk with
          | zero => exact absurd HA.out (by simp [annalsref14_Way.l0])
          | succ k2 =>
            have H := HA.out
            clear HA
            simp only [annalsref14_Way.l0] at H
            by_cases c7 : x0_2 > a1
            · rw [if_pos c7] at H
              have c7b0 : decide (a1 < x0_2) = true := decide_eq_true c7
              clear c7
              replace H := Option.bind_eq_some_iff.mp H
              obtain ⟨t353, A80, H⟩ := H
              replace H : (if x5_2.length < 17592186044416 then (annalsref14_Way.l0 k2 t353 a1 (x5_2 ++ [t353])) else (none)) = some r := H
              have A8 := Aside0.mk A80
              clear A80
              by_cases c9 : x5_2.length < 17592186044416
              · rw [if_pos c9] at H
                have LMc9 := Aside0.mk c9
                clear c9
                obtain ⟨y354, hy354⟩ : ∃ y_ : List Int, y_ = (x5_2 ++ [t353]) := ⟨_, rfl⟩
                replace H : (annalsref14_Way.l0 k2 t353 a1 y354) = some r := by first | (rw [hy354]; with_reducible exact H) | (have H2_ := (Option.bind_some _ _).symm.trans H; rw [hy354]; with_reducible exact H2_) | (have H2_ := (Option.bind_some _ _).symm.trans H; with_reducible exact H2_) | with_reducible exact H | (rw [hy354]; exact H) | exact H
                have Ny354 := Aside0.mk hy354
                clear hy354
                have H' := Aside0.mk H
                clear H
                go_wp2_with (first | ((with_reducible refine gate_callee (f := 17) rfl ?_); refine goesL_ (some 22) rfl rfl Tryd.func17 (by kernel_rfl) rfl #[.int .i64 x0_2, .int .i64 a1] rfl (by (try simp only [List.map_toArray, List.map_cons, List.map_nil]); first | done | rfl | (simp only [List.length_drop, List.length_take]; rfl)) ?_; (with_reducible refine (annalsref14_Next.calls k2 x0_2 a1 t353 _ A8.out).mono ?_); rintro e w10 ⟨rfl, hb⟩; refine ⟨_, rfl, ?_⟩; have n0_ := Aside0.mk (Kd.R_below (by (with_reducible repeat (first | apply Kd.R_alloc | apply Kd.R_drewN | apply Kd.R_drew)); exact HO_5.out) hb); have n1_ := Aside0.mk (below_step (by repeat (first | (with_reducible first | exact HB.out | apply below_alloc | apply pw_below_drewN | apply below_drew1) | exact HB.out)) hb); clear HO_5; clear HB; have HO_5 := n0_; have HB := n1_; clear n0_ n1_; (try clear hb); (try clear hb2); (try clear hk); (try clear hi)) | ((with_reducible refine gate_builtin (b := .append) (xs := #[.tmp 23, .tmp 25]) rfl ?_); at_builtin; refine Kd.R_append (Kd.int .i64) (w0 := w) w.heap.size rfl (.tmp 23) (.tmp 25) 23 3 (.int .i64 0) 8 rfl Tryd.underlying23 info3 rfl (by decide) (by omega) u5 x5_2 t353 [.int .i64 t353] (fun _ => True) (fun _ => False) rfl rfl ?aP (fun _ hk => hk.elim) ?aF ?aO ?aB ?aS ?aL ?_; (case aP => exact rfl); (case aB => exact (by repeat (first | (with_reducible first | exact HB.out | apply below_alloc | apply pw_below_drewN | apply below_drew1) | exact HB.out))); (case aF => exact (fun _ _ => trivial)); (case aO => exact (by (with_reducible repeat (first | apply Kd.R_alloc | apply Kd.R_drewN | apply Kd.R_drew)); exact HO_5.out)); (case aS => exact (below_size (by repeat (first | (with_reducible first | exact HB.out | apply below_alloc | apply pw_below_drewN | apply below_drew1) | exact HB.out)))); (case aL => have := LMc9.out; omega); intro v355 w11 ho hb hg hat; rw [← Ny354.out] at ho; have n0_ := Aside0.mk (hb); have n1_ := Aside0.mk (ho); clear HB; clear HO_5; have HB := n0_; have HO356 := n1_; clear n0_ n1_; clear ho hb hg hat))
                go_roundg k2
                case measure => have := HJ2.out; have := HK2.out; omega
                case rel => exact ⟨(t353), (y354), (by first | rfl | (simp; done) | (simp [*]; done)), H', ⟨by have := HJ2.out; have := HK2.out; omega⟩, ⟨by (with_reducible repeat (first | apply Kd.R_alloc | apply Kd.R_drewN | apply Kd.R_drew)); exact HO356.out⟩, ⟨by repeat (first | (with_reducible first | exact HB.out | apply below_alloc | apply pw_below_drewN | apply below_drew1) | exact HB.out)⟩⟩
              · rw [if_neg c9] at H
                exact absurd H (by simp)
            · rw [if_neg c7] at H
              have c7b0 : decide (a1 < x0_2) = false := decide_eq_false c7
              clear c7
              obtain rfl := Option.some.inj H
              go_wp2
              go_ret
              exact ⟨_, by first | rfl | (simp [errW_none, errW_some] <;> rfl) | (simp [*, errW_none, errW_some] <;> rfl), by (with_reducible repeat (first | apply Kd.R_alloc | apply Kd.R_drewN | apply Kd.R_drew)); exact HO_5.out, by repeat (first | (with_reducible first | exact HB.out | apply below_alloc | apply pw_below_drewN | apply below_drew1) | exact HB.out)⟩
end Go.Proofs.YteamljekjncbfaaDoor.P
end
section
set_option linter.unusedVariables false
set_option linter.unusedSimpArgs false
namespace Go.Proofs.YteamljekjncbfaaDoor.Pure
open Go.RowKit Go.Proofs.YteamljekjncbfaaDoor.P Go.Proofs.YteamljekjncbfaaDoorW.PrintWords Go.Proofs.YteamljekjncbfaaDoorW.PrintLast Go.Proofs.YteamljekjncbfaaDoorW.PrintMore
def p2 (j : Nat) : Nat := 2 ^ j
theorem p2_pos (j : Nat) : 0 < p2 j := Nat.pow_pos (by decide)
theorem p2_succ (j : Nat) : p2 (j + 1) = 2 * p2 j := by unfold p2; rw [Nat.pow_succ]; omega
theorem p2_mono {i j : Nat} (h : i ≤ j) : p2 i ≤ p2 j := Nat.pow_le_pow_right (by decide) h
theorem p2_dvd {i j : Nat} (h : i ≤ j) : p2 i ∣ p2 j := Nat.pow_dvd_pow 2 h
theorem p2_0 : p2 0 = 1 := rfl
theorem p2_62 : p2 62 = 4611686018427387904 := by decide
theorem p2_63 : p2 63 = 9223372036854775808 := by decide
def vz (f : Nat) : Nat := Lib.ctz 64 f
def bl (d : Nat) : Nat := Lib.bitLen d
theorem vz_odd (f : Nat) (h0 : 0 < f) (h1 : f < 9223372036854775808) : ∃ m, f = p2 (vz f) * (2 * m + 1) := by
  unfold vz Lib.ctz p2
  rw [if_neg (by omega)]
  obtain ⟨m, hm, hk⟩ := Lib.ctzFrom_spec 64 f h0 (by omega)
  exact ⟨m, hm⟩
theorem vz_spec (f : Nat) (h0 : 0 < f) (h1 : f < 9223372036854775808) : vz f < 63 ∧ p2 (vz f) ≤ f := by
  obtain ⟨m, hm⟩ := vz_odd f h0 h1
  have hle : p2 (vz f) ≤ f := by
    have : p2 (vz f) ≤ p2 (vz f) * (2 * m + 1) := Nat.le_mul_of_pos_right _ (by omega)
    omega
  refine ⟨?_, hle⟩
  apply Nat.lt_of_not_le
  intro h
  have := p2_mono h
  rw [p2_63] at this
  omega
theorem bl_spec (d : Nat) (h0 : 0 < d) (h1 : d < 9223372036854775808) : 1 ≤ bl d ∧ bl d ≤ 63 ∧ p2 (bl d - 1) ≤ d ∧ d < p2 (bl d) := by
  unfold bl Lib.bitLen
  obtain ⟨a, b, c⟩ := Lib.bitLenAux_bounds 64 d (by omega) (by omega)
  refine ⟨a, ?_, b, c⟩
  apply Nat.le_of_not_lt
  intro h
  have := p2_mono (show 63 ≤ Lib.bitLenAux 64 d - 1 by omega)
  rw [p2_63] at this
  unfold p2 at this
  omega
theorem bl_zero : bl 0 = 0 := by decide
theorem vz_ge {f j : Nat} (h0 : 0 < f) (h1 : f < 9223372036854775808) (hd : p2 j ∣ f) : j ≤ vz f := by
  obtain ⟨m, hm⟩ := vz_odd f h0 h1
  apply Nat.le_of_not_lt
  intro hlt
  have h2 : p2 (vz f + 1) ∣ f := Nat.dvd_trans (p2_dvd hlt) hd
  rw [p2_succ, Nat.mul_comm] at h2
  generalize vz f = v at *
  rw [hm] at h2
  have h3 := Nat.dvd_of_mul_dvd_mul_left (p2_pos v) h2
  omega
theorem vz_dvd {f j : Nat} (h0 : 0 < f) (h1 : f < 9223372036854775808) (hj : j ≤ vz f) : p2 j ∣ f := by
  obtain ⟨m, hm⟩ := vz_odd f h0 h1
  have h2 := p2_dvd hj
  generalize vz f = v at *
  rw [hm]
  exact Nat.dvd_trans h2 (Nat.dvd_mul_right _ _)
theorem tz_f (f : Nat) (h1 : f < 9223372036854775808) : bits_TrailingZeros.f (IntKind.u64.wrap (f : Int)) = some (vz f : Int) := by
  have e : IntKind.u64.wrap (f : Int) = (f : Int) := by rw [IntKind.wrap_u64]; omega
  rw [e]
  unfold bits_TrailingZeros.f
  rw [if_pos (by omega), if_pos (by omega), Int.toNat_natCast]
  rfl
theorem len_f (d : Nat) (h1 : d < 9223372036854775808) : bits_Len.f (IntKind.u64.wrap (d : Int)) = some (bl d : Int) := by
  have e : IntKind.u64.wrap (d : Int) = (d : Int) := by rw [IntKind.wrap_u64]; omega
  rw [e]
  unfold bits_Len.f
  rw [if_pos (by omega), if_pos (by omega), Int.toNat_natCast]
  rfl
theorem shl_one (j : Nat) (hj : j ≤ 62) : shl .i64 1 (j : Int) = (p2 j : Int) := by
  unfold shl
  rw [Int.toNat_natCast, Nat.min_eq_left (by simp [IntKind.bits]; omega), Int.one_mul]
  have h2 := p2_mono hj
  rw [p2_62] at h2
  have e : (2 : Int) ^ j = (p2 j : Int) := by unfold p2; rw [Int.natCast_pow]; rfl
  rw [e]
  generalize p2 j = x at *
  exact IntWalk.i64_in _ ⟨by omega, by omega⟩
def links (f : Nat) : List Int := (List.range (vz f + 1)).map fun k => (f : Int) - (p2 k : Int)
theorem links_snoc (f i : Nat) : (List.range (i + 1)).map (fun k => (f : Int) - (p2 k : Int)) = (List.range i).map (fun k => (f : Int) - (p2 k : Int)) ++ [(f : Int) - (p2 i : Int)] := by
  rw [List.range_succ, List.map_append]; rfl
theorem pow_le_of {f j : Nat} (h0 : 0 < f) (h1 : f < 9223372036854775808) (hj : j ≤ vz f) : p2 j ≤ f :=
  Nat.le_of_dvd h0 (vz_dvd h0 h1 hj)
theorem links_l0 (f : Nat) (h0 : 0 < f) (h1 : f < 9223372036854775808) : ∀ (d k i : Nat), i ≤ vz f + 1 → vz f + 1 - i = d → d < k →
    skip_Links.l0 k (f : Int) ((List.range i).map fun k => (f : Int) - (p2 k : Int)) ((vz f + 1 : Nat) : Int) (i : Int) = some (links f) := by
  have hv := (vz_spec f h0 h1).1
  intro d
  induction d with
  | zero =>
    intro k i hi hd hk
    obtain ⟨k, rfl⟩ : ∃ m, k = m + 1 := ⟨k - 1, by omega⟩
    simp only [skip_Links.l0]
    rw [if_neg (by omega), show i = vz f + 1 from by omega]
    rfl
  | succ d ih =>
    intro k i hi hd hk
    obtain ⟨k, rfl⟩ : ∃ m, k = m + 1 := ⟨k - 1, by omega⟩
    have hp := pow_le_of h0 h1 (show i ≤ vz f by omega)
    simp only [skip_Links.l0]
    rw [if_pos (by omega), if_pos (by omega), if_pos (by simp; omega), shl_one i (by omega)]
    have e1 : wrap64 ((f : Int) - (p2 i : Int)) = (f : Int) - (p2 i : Int) := by unfold wrap64; omega
    have e2 : wrap64 ((i : Int) + 1) = ((i + 1 : Nat) : Int) := by unfold wrap64; omega
    rw [e1, e2, ← links_snoc]
    exact ih k (i + 1) (by omega) (by omega) (by omega)
theorem links_f (f : Nat) (h0 : 0 < f) (h1 : f < 9223372036854775808) (k : Nat) (hk : 70 < k) : skip_Links.f k (f : Int) = some (links f) := by
  have hv := (vz_spec f h0 h1).1
  unfold skip_Links.f
  rw [if_pos (by omega), tz_f f h1]
  simp only [Option.bind_some]
  rw [show wrap64 ((vz f : Int) + 1) = ((vz f + 1 : Nat) : Int) from by unfold wrap64; omega]
  exact links_l0 f h0 h1 (vz f + 1) k 0 (by omega) (by omega) (by omega)
theorem rlinks_l0 (f : Nat) (h0 : 0 < f) (h1 : f < 9223372036854775808) : ∀ (d k i : Nat), i ≤ vz f + 1 → vz f + 1 - i = d → d < k →
    annalsref14_Links.l0 k (f : Int) ((List.range i).map fun k => (f : Int) - (p2 k : Int)) (wrap64 (p2 i : Int)) = some (links f) := by
  obtain ⟨hv, hle⟩ := vz_spec f h0 h1
  intro d
  induction d with
  | zero =>
    intro k i hi hd hk
    obtain ⟨k, rfl⟩ : ∃ m, k = m + 1 := ⟨k - 1, by omega⟩
    obtain rfl : i = vz f + 1 := by omega
    simp only [annalsref14_Links.l0]
    by_cases h62 : vz f = 62
    · have e : wrap64 (p2 (vz f + 1) : Int) = -9223372036854775808 := by rw [h62, p2_63]; unfold wrap64; omega
      rw [e, if_neg (by decide)]
      rfl
    · have h2 := p2_mono (show vz f + 1 ≤ 62 by omega)
      rw [p2_62] at h2
      have e : wrap64 (p2 (vz f + 1) : Int) = (p2 (vz f + 1) : Int) := by unfold wrap64; omega
      have hp : 0 < p2 (vz f + 1) := p2_pos _
      rw [e, if_pos (by omega)]
      by_cases hlt : p2 (vz f + 1) ≤ f
      · rw [if_pos (by omega), if_neg (by omega), if_neg]
        · rfl
        · intro h
          have h3 : f % p2 (vz f + 1) = 0 := by
            have := h
            rw [Int.tmod_eq_emod_of_nonneg (by omega)] at this
            omega
          have := vz_ge h0 h1 (Nat.dvd_of_mod_eq_zero h3)
          omega
      · rw [if_neg (by omega)]
        rfl
  | succ d ih =>
    intro k i hi hd hk
    obtain ⟨k, rfl⟩ : ∃ m, k = m + 1 := ⟨k - 1, by omega⟩
    have hp := pow_le_of h0 h1 (show i ≤ vz f by omega)
    have hp0 : 0 < p2 i := p2_pos _
    have e : wrap64 (p2 i : Int) = (p2 i : Int) := by unfold wrap64; omega
    simp only [annalsref14_Links.l0]
    rw [e, if_pos (by omega), if_pos (by omega), if_neg (by omega), if_pos, if_pos (by simp; omega)]
    · have e1 : wrap64 ((f : Int) - (p2 i : Int)) = (f : Int) - (p2 i : Int) := by unfold wrap64; omega
      have e2 : (2 : Int) * (p2 i : Int) = (p2 (i + 1) : Int) := by rw [p2_succ]; omega
      rw [e1, e2, ← links_snoc]
      exact ih k (i + 1) (by omega) (by omega) (by omega)
    · rw [Int.tmod_eq_emod_of_nonneg (by omega)]
      have := Nat.mod_eq_zero_of_dvd (vz_dvd h0 h1 (show i ≤ vz f by omega))
      omega
theorem rlinks_f (f : Nat) (h0 : 0 < f) (h1 : f < 9223372036854775808) (k : Nat) (hk : 70 < k) : annalsref14_Links.f k (f : Int) = some (links f) := by
  have hv := (vz_spec f h0 h1).1
  unfold annalsref14_Links.f
  have := rlinks_l0 f h0 h1 (vz f + 1) k 0 (by omega) (by omega) (by omega)
  rw [p2_0, show wrap64 ((1 : Nat) : Int) = 1 from by unfold wrap64; omega] at this
  exact this
def hop (f t : Nat) : Nat := min (vz f) (bl (f - t) - 1)
def nxt (f t : Nat) : Nat := f - p2 (hop f t)
theorem hop_le (f t : Nat) (h : t < f) (h1 : f < 9223372036854775808) : p2 (hop f t) ≤ f - t ∧ hop f t ≤ 62 := by
  have hb := bl_spec (f - t) (by omega) (by omega)
  have := p2_mono (show hop f t ≤ bl (f - t) - 1 from Nat.min_le_right _ _)
  have h2 : hop f t ≤ bl (f - t) - 1 := Nat.min_le_right _ _
  exact ⟨by omega, by omega⟩
theorem nxt_lt (f t : Nat) (h : t < f) (h1 : f < 9223372036854775808) : t ≤ nxt f t ∧ nxt f t < f := by
  have := hop_le f t h h1
  have hp : 0 < p2 (hop f t) := p2_pos _
  unfold nxt
  omega
theorem step_no (f t : Int) (h : t < 0 ∨ f ≤ t) (k : Nat) (hk : 0 < k) : skip_step.f k f t = some (-1) := by
  obtain ⟨k, rfl⟩ : ∃ m, k = m + 1 := ⟨k - 1, by omega⟩
  unfold skip_step.f
  by_cases ht : t < 0
  · rw [if_pos ht]
    simp only [skip_step.j0]
    rw [if_pos trivial]
  · rw [if_neg ht]
    simp only [skip_step.j0]
    rw [if_pos (by simp; omega)]
theorem step_yes (f t : Nat) (h : t < f) (h1 : f < 9223372036854775808) (k : Nat) (hk : 0 < k) : skip_step.f k (f : Int) (t : Int) = some (hop f t : Int) := by
  obtain ⟨k, rfl⟩ : ∃ m, k = m + 1 := ⟨k - 1, by omega⟩
  have hb := bl_spec (f - t) (by omega) (by omega)
  have hv := (vz_spec f (by omega) h1).1
  unfold skip_step.f
  rw [if_neg (by omega)]
  simp only [skip_step.j0]
  rw [if_neg (by simp; omega), tz_f f h1]
  have e : wrap64 ((f : Int) - (t : Int)) = ((f - t : Nat) : Int) := by unfold wrap64; omega
  simp only [Option.bind_some]
  rw [e, len_f (f - t) (by omega)]
  simp only [Option.bind_some]
  congr 1
  unfold hop mn wrap64
  by_cases hc : (vz f : Int) ≤ (bl (f - t) : Int) - 1
  · rw [Nat.min_eq_left (by omega)]
    split <;> omega
  · rw [Nat.min_eq_right (by omega)]
    split <;> omega
theorem next_yes (f t : Nat) (h : t < f) (h1 : f < 9223372036854775808) (k : Nat) (hk : 0 < k) : skip_Next.f k (f : Int) (t : Int) = some (nxt f t : Int) := by
  have hh := hop_le f t h h1
  unfold skip_Next.f
  rw [step_yes f t h h1 k hk]
  simp only [Option.bind_some]
  rw [if_neg (by omega), if_pos (by omega), shl_one _ hh.2]
  congr 1
  unfold nxt wrap64
  omega
theorem rd_links (f : Nat) (i : Nat) (h : i < vz f + 1) : rd (links f) (i : Int) = (f : Int) - (p2 i : Int) := by
  unfold rd links
  rw [Int.toNat_natCast, List.getD_eq_getElem?_getD, List.getElem?_map, List.getElem?_range h]
  rfl
theorem links_length (f : Nat) : (links f).length = vz f + 1 := by unfold links; simp
def cur (f t : Nat) : Nat → Nat
  | 0 => f
  | i + 1 => if t < f then f - p2 (min i (bl (f - t) - 1)) else f
theorem cur_pos {f t : Nat} (h : t < f) (i : Nat) : cur f t (i + 1) = f - p2 (min i (bl (f - t) - 1)) := if_pos h
theorem cur_neg {f t : Nat} (h : ¬ t < f) (i : Nat) : cur f t i = f := by
  cases i with
  | zero => rfl
  | succ i => exact if_neg h
theorem rnext_l0 (f t : Nat) (h0 : 0 < f) (h1 : f < 9223372036854775808) : ∀ (d k i : Nat), i ≤ vz f + 1 → vz f + 1 - i = d → d < k →
    annalsref14_Next.l0 k (t : Int) (cur f t i : Int) (links f) ((links f).length : Int) (i : Int) = some (cur f t (vz f + 1) : Int) := by
  have hv := (vz_spec f h0 h1).1
  intro d
  induction d with
  | zero =>
    intro k i hi hd hk
    obtain ⟨k, rfl⟩ : ∃ m, k = m + 1 := ⟨k - 1, by omega⟩
    simp only [annalsref14_Next.l0, links_length]
    rw [if_neg (by omega), show i = vz f + 1 from by omega]
  | succ d ih =>
    intro k i hi hd hk
    obtain ⟨k, rfl⟩ : ∃ m, k = m + 1 := ⟨k - 1, by omega⟩
    have hp := pow_le_of h0 h1 (show i ≤ vz f by omega)
    have e2 : wrap64 ((i : Int) + 1) = ((i + 1 : Nat) : Int) := by unfold wrap64; omega
    simp only [annalsref14_Next.l0]
    rw [e2, rd_links f i (by omega), links_length]
    rw [if_pos (show (i : Int) < ((vz f + 1 : Nat) : Int) by omega), if_pos (show (0 : Int) ≤ (i : Int) by omega), if_pos (show (i : Int) < ((vz f + 1 : Nat) : Int) by omega)]
    have ih' := ih k (i + 1) (by omega) (by omega) (by omega)
    rw [links_length] at ih'
    by_cases hc : t + p2 i ≤ f
    · rw [if_pos (show (f : Int) - (p2 i : Int) ≥ (t : Int) by omega)]
      have hp0 : 0 < p2 i := p2_pos _
      have hb := bl_spec (f - t) (by omega) (by omega)
      have hi2 : i ≤ bl (f - t) - 1 := by
        apply Nat.le_of_not_lt
        intro hlt
        have := p2_mono (show bl (f - t) ≤ i by omega)
        omega
      have e3 : cur f t (i + 1) = f - p2 i := by
        rw [cur_pos (by omega), Nat.min_eq_left hi2]
      rw [e3] at ih'
      rw [show (f : Int) - (p2 i : Int) = ((f - p2 i : Nat) : Int) from by omega]
      exact ih'
    · rw [if_neg (show ¬ (f : Int) - (p2 i : Int) ≥ (t : Int) by omega)]
      have e3 : cur f t (i + 1) = cur f t i := by
        by_cases htf : t < f
        · have hb := bl_spec (f - t) (by omega) (by omega)
          have hi2 : bl (f - t) - 1 < i := by
            apply Nat.lt_of_not_le
            intro hle
            have := p2_mono hle
            omega
          cases i with
          | zero => omega
          | succ i =>
            have m1 : min (i + 1) (bl (f - t) - 1) = bl (f - t) - 1 := Nat.min_eq_right (Nat.le_of_lt hi2)
            have m2 : min i (bl (f - t) - 1) = bl (f - t) - 1 := Nat.min_eq_right (Nat.le_of_lt_succ hi2)
            rw [cur_pos htf, cur_pos htf, m1, m2]
        · rw [cur_neg htf, cur_neg htf]
      rw [e3] at ih'
      exact ih'
theorem rnext_yes (f t : Nat) (h : t < f) (h1 : f < 9223372036854775808) (k : Nat) (hk : 70 < k) : annalsref14_Next.f k (f : Int) (t : Int) = some (nxt f t : Int) := by
  unfold annalsref14_Next.f
  rw [if_neg (by omega), rlinks_f f (by omega) h1 k hk]
  simp only [Option.bind_some]
  have hv := (vz_spec f (by omega) h1).1
  have := rnext_l0 f t (by omega) h1 (vz f + 1) k 0 (by omega) (by omega) (by omega)
  have e : cur f t (vz f + 1) = nxt f t := cur_pos h _
  rw [e] at this
  exact this
def wayL : Nat → Nat → Nat → List Int
  | 0, _, _ => []
  | n + 1, f, t => if t < f then (nxt f t : Int) :: wayL n (nxt f t) t else []
theorem way_l0 (t : Nat) : ∀ (n k f : Nat) (acc : List Int), f < 9223372036854775808 → f - t ≤ n → n + 1 < k → acc.length + n < 10000000 →
    skip_Way.l0 k (f : Int) (t : Int) acc = some (acc ++ wayL n f t) := by
  intro n
  induction n with
  | zero =>
    intro k f acc h1 hn hk ha
    obtain ⟨k, rfl⟩ : ∃ m, k = m + 1 := ⟨k - 1, by omega⟩
    simp only [skip_Way.l0, wayL]
    rw [step_no _ _ (by omega) k (by omega)]
    simp
  | succ n ih =>
    intro k f acc h1 hn hk ha
    obtain ⟨k, rfl⟩ : ∃ m, k = m + 1 := ⟨k - 1, by omega⟩
    simp only [skip_Way.l0, wayL]
    by_cases htf : t < f
    · have hx := nxt_lt f t htf h1
      rw [step_yes f t htf h1 k (by omega), if_pos htf]
      simp only [Option.bind_some]
      rw [if_pos (by omega), next_yes f t htf h1 k (by omega)]
      simp only [Option.bind_some]
      rw [if_pos (by omega), ih k (nxt f t) (acc ++ [(nxt f t : Int)]) (by omega) (by omega) (by omega) (by simp; omega)]
      simp
    · rw [step_no _ _ (by omega) k (by omega), if_neg htf]
      simp
theorem rway_l0 (t : Nat) : ∀ (n k f : Nat) (acc : List Int), f < 9223372036854775808 → f - t ≤ n → n + 80 < k → acc.length + n < 10000000 →
    annalsref14_Way.l0 k (f : Int) (t : Int) acc = some (acc ++ wayL n f t) := by
  intro n
  induction n with
  | zero =>
    intro k f acc h1 hn hk ha
    obtain ⟨k, rfl⟩ : ∃ m, k = m + 1 := ⟨k - 1, by omega⟩
    simp only [annalsref14_Way.l0, wayL]
    rw [if_neg (by omega)]
    simp
  | succ n ih =>
    intro k f acc h1 hn hk ha
    obtain ⟨k, rfl⟩ : ∃ m, k = m + 1 := ⟨k - 1, by omega⟩
    simp only [annalsref14_Way.l0, wayL]
    by_cases htf : t < f
    · have hx := nxt_lt f t htf h1
      rw [if_pos (by omega), rnext_yes f t htf h1 k (by omega), if_pos htf]
      simp only [Option.bind_some]
      rw [if_pos (by omega), ih k (nxt f t) (acc ++ [(nxt f t : Int)]) (by omega) (by omega) (by omega) (by simp; omega)]
      simp
    · rw [if_neg (by omega), if_neg htf]
      simp
theorem rway_no (f t : Int) (h : t < 0 ∨ f ≤ t) (k : Nat) (hk : 1 < k) : annalsref14_Way.f k f t = some [] := by
  obtain ⟨k, rfl⟩ : ∃ m, k = m + 1 := ⟨k - 1, by omega⟩
  unfold annalsref14_Way.f
  by_cases ht : t < 0
  · rw [if_pos ht]
    simp only [annalsref14_Way.j0]
    rw [if_pos trivial]
  · rw [if_neg ht, if_pos (by omega)]
    simp only [annalsref14_Way.j0]
    rw [if_pos trivial]
theorem rway_yes (f t : Nat) (ht : t < f) (h1 : f ≤ 1048576) (k : Nat) (hk : 1048700 < k) : annalsref14_Way.f k (f : Int) (t : Int) = some (wayL f f t) := by
  obtain ⟨k, rfl⟩ : ∃ m, k = m + 1 := ⟨k - 1, by omega⟩
  unfold annalsref14_Way.f
  rw [if_neg (by omega), if_neg (by omega)]
  simp only [annalsref14_Way.j0]
  rw [if_neg (by simp; omega)]
  exact rway_l0 t f k f [] (by omega) (by omega) (by omega) (by simp; omega)
end Go.Proofs.YteamljekjncbfaaDoor.Pure
end
section
namespace Go.Proofs.YteamljekjncbfaaDoor.P
open Go.RowKit Go.Proofs.YteamljekjncbfaaDoorW.PrintWords Go.Proofs.YteamljekjncbfaaDoorW.PrintLast Go.Proofs.YteamljekjncbfaaDoorW.PrintMore
attribute [local go_sem] max2_int min2_int max_two min_two max_three min_three max_four min_four
set_option linter.unusedVariables false
set_option linter.unusedSimpArgs false
def bits_RotateLeft32.f (a0 : Int) (a1 : Int) : Option (Int) := if 0 ≤ (Go.bits .and .u64 (IntKind.u64.wrap (a1)) 31) then (if 0 ≤ (IntKind.u64.wrap (32 - (Go.bits .and .u64 (IntKind.u64.wrap (a1)) 31))) then (some (Go.bits .or .u32 (shl .u32 a0 (Go.bits .and .u64 (IntKind.u64.wrap (a1)) 31)) (shr .u32 a0 (IntKind.u64.wrap (32 - (Go.bits .and .u64 (IntKind.u64.wrap (a1)) 31)))))) else (none)) else (none)
set_option maxHeartbeats 8000000 in
set_option maxRecDepth 100000 in
theorem bits_RotateLeft32.calls (a0 : Int) (a1 : Int) (r : Int) (w : World) (h : bits_RotateLeft32.f a0 a1 = some r) :
    Calls Tryd.prog 125 #[.int .u32 a0, .int .i64 a1] w fun e w' => e = .returned (.int .u32 r) ∧ Drawn0 w w' := by
  have H : (if 0 ≤ (Go.bits .and .u64 (IntKind.u64.wrap (a1)) 31) then (if 0 ≤ (IntKind.u64.wrap (32 - (Go.bits .and .u64 (IntKind.u64.wrap (a1)) 31))) then (some (Go.bits .or .u32 (shl .u32 a0 (Go.bits .and .u64 (IntKind.u64.wrap (a1)) 31)) (shr .u32 a0 (IntKind.u64.wrap (32 - (Go.bits .and .u64 (IntKind.u64.wrap (a1)) 31)))))) else (none)) else (none)) = some r := h
  clear h
  obtain ⟨ji3, hji3⟩ : ∃ j_ : Int, (Go.bits .and .u64 (IntKind.u64.wrap (a1)) 31) = j_ := ⟨_, rfl⟩
  replace H : (if 0 ≤ (ji3) then (if 0 ≤ (IntKind.u64.wrap (32 - (ji3))) then (some (Go.bits .or .u32 (shl .u32 a0 (ji3)) (shr .u32 a0 (IntKind.u64.wrap (32 - (ji3)))))) else (none)) else (none)) = some r := by first | (rw [hji3] at H; exact H) | (simp only [hji3] at H ⊢; exact H)
  by_cases c4 : 0 ≤ (ji3)
  · rw [if_pos c4] at H
    have c4b0 := eq_true c4
    have c4b1 : decide (0 ≤ (ji3)) = true := decide_eq_true c4
    clear c4
    obtain ⟨ji5, hji5⟩ : ∃ j_ : Int, (shl .u32 a0 (ji3)) = j_ := ⟨_, rfl⟩
    replace H : (if 0 ≤ (IntKind.u64.wrap (32 - (ji3))) then (some (Go.bits .or .u32 (ji5) (shr .u32 a0 (IntKind.u64.wrap (32 - (ji3)))))) else (none)) = some r := by first | (rw [hji5] at H; exact H) | (simp only [hji5] at H ⊢; exact H)
    have hji5_ : (IntKind.u32.wrap (a0 * 2 ^ min (ji3).toNat 32)) = ji5 := hji5
    have hji5z : (ji3) ≤ 32 → (IntKind.u32.wrap (a0 * 2 ^ (ji3).toNat)) = ji5 := shl_small hji5
    obtain ⟨ji6, hji6⟩ : ∃ j_ : Int, (IntKind.u64.wrap (32 - (ji3))) = j_ := ⟨_, rfl⟩
    replace H : (if 0 ≤ (ji6) then (some (Go.bits .or .u32 (ji5) (shr .u32 a0 (ji6)))) else (none)) = some r := by first | (rw [hji6] at H; exact H) | (simp only [hji6] at H ⊢; exact H)
    by_cases c7 : 0 ≤ (ji6)
    · rw [if_pos c7] at H
      have c7b0 := eq_true c7
      have c7b1 : decide (0 ≤ (ji6)) = true := decide_eq_true c7
      clear c7
      obtain ⟨ji8, hji8⟩ : ∃ j_ : Int, (shr .u32 a0 (ji6)) = j_ := ⟨_, rfl⟩
      replace H : (some (Go.bits .or .u32 (ji5) (ji8))) = some r := by first | (rw [hji8] at H; exact H) | (simp only [hji8] at H ⊢; exact H)
      have hji8_ : (a0 / 2 ^ min (ji6).toNat 32) = ji8 := hji8
      have hji8z : (ji6) ≤ 32 → (a0 / 2 ^ (ji6).toNat) = ji8 := shr_small hji8
      obtain rfl := Option.some.inj H
      go_enter Tryd.func125, Tryd.ntmps125
      go_wp2
      go_ret
      exact ⟨by first | rfl | (simp; done) | (simp only [← hji3, ← hji5, ← hji6, ← hji8] <;> (first | rfl | simp)) | (simp [*]; done), by repeat (first | exact Drawn0.refl _ | apply Drawn0.step)⟩
    · rw [if_neg c7] at H
      exact absurd H (by simp)
  · rw [if_neg c4] at H
    exact absurd H (by simp)
end Go.Proofs.YteamljekjncbfaaDoor.P
end
section
namespace Go.Proofs.YteamljekjncbfaaDoor.P
open Go.RowKit Go.Proofs.YteamljekjncbfaaDoorW.PrintWords Go.Proofs.YteamljekjncbfaaDoorW.PrintLast Go.Proofs.YteamljekjncbfaaDoorW.PrintMore
attribute [local go_sem] max2_int min2_int max_two min_two max_three min_three max_four min_four
set_option linter.unusedVariables false
set_option linter.unusedSimpArgs false
def sha_gamma.f (a0 : Int) (a1 : Int) (a2 : Int) (a3 : Int) : Option (Int) := (bits_RotateLeft32.f a0 (wrap64 (32 - a1))).bind fun t115 => ((bits_RotateLeft32.f a0 (wrap64 (32 - a2))).bind fun t116 => (if 0 ≤ a3 then (some (Go.bits .xor .u32 (Go.bits .xor .u32 t115 t116) (shr .u32 a0 a3))) else (none)))
set_option maxHeartbeats 8000000 in
set_option maxRecDepth 100000 in
theorem sha_gamma.calls (a0 : Int) (a1 : Int) (a2 : Int) (a3 : Int) (r : Int) (w : World) (h : sha_gamma.f a0 a1 a2 a3 = some r) :
    Calls Tryd.prog 124 #[.int .u32 a0, .int .i64 a1, .int .i64 a2, .int .i64 a3] w fun e w' => e = .returned (.int .u32 r) ∧ Drawn0 w w' := by
  have H : ((bits_RotateLeft32.f a0 (wrap64 (32 - a1))).bind fun t115 => ((bits_RotateLeft32.f a0 (wrap64 (32 - a2))).bind fun t116 => (if 0 ≤ a3 then (some (Go.bits .xor .u32 (Go.bits .xor .u32 t115 t116) (shr .u32 a0 a3))) else (none)))) = some r := h
  clear h
  replace H := Option.bind_eq_some_iff.mp H
  obtain ⟨t115, A50, H⟩ := H
  replace H : ((bits_RotateLeft32.f a0 (wrap64 (32 - a2))).bind fun t116 => (if 0 ≤ a3 then (some (Go.bits .xor .u32 (Go.bits .xor .u32 t115 t116) (shr .u32 a0 a3))) else (none))) = some r := H
  have A5 := Aside0.mk A50
  clear A50
  replace H := Option.bind_eq_some_iff.mp H
  obtain ⟨t116, A60, H⟩ := H
  replace H : (if 0 ≤ a3 then (some (Go.bits .xor .u32 (Go.bits .xor .u32 t115 t116) (shr .u32 a0 a3))) else (none)) = some r := H
  have A6 := Aside0.mk A60
  clear A60
  by_cases c7 : 0 ≤ a3
  · rw [if_pos c7] at H
    have c7b0 := eq_true c7
    have c7b1 : decide (0 ≤ a3) = true := decide_eq_true c7
    clear c7
    obtain ⟨ji8, hji8⟩ : ∃ j_ : Int, (shr .u32 a0 a3) = j_ := ⟨_, rfl⟩
    replace H : (some (Go.bits .xor .u32 (Go.bits .xor .u32 t115 t116) (ji8))) = some r := by first | (rw [hji8] at H; exact H) | (simp only [hji8] at H ⊢; exact H)
    (try rw [hji8] at A5)
    (try rw [hji8] at A6)
    have hji8_ : (a0 / 2 ^ min a3.toNat 32) = ji8 := hji8
    have hji8z : a3 ≤ 32 → (a0 / 2 ^ a3.toNat) = ji8 := shr_small hji8
    obtain rfl := Option.some.inj H
    go_enter Tryd.func124, Tryd.ntmps124
    go_wp2_with (first | (go_at_call 125; (with_reducible refine (bits_RotateLeft32.calls a0 (wrap64 (32 - a1)) t115 _ A5.out).mono ?_); rintro e w' ⟨rfl, ⟨nd, rfl⟩⟩; (try first | exact ⟨rfl, _, World.drewN_drewN _ _ _⟩ | exact ⟨rfl, _, Eq.trans (World.drewN_drewN _ _ _) (congrArg (World.drewN _) (Nat.add_assoc _ _ _))⟩)) | (go_at_call 125; (with_reducible refine (bits_RotateLeft32.calls a0 (wrap64 (32 - a2)) t116 _ A6.out).mono ?_); rintro e w' ⟨rfl, ⟨nd, rfl⟩⟩; (try first | exact ⟨rfl, _, World.drewN_drewN _ _ _⟩ | exact ⟨rfl, _, Eq.trans (World.drewN_drewN _ _ _) (congrArg (World.drewN _) (Nat.add_assoc _ _ _))⟩)))
    repeat (go_quiet (first | (go_at_call 125; (with_reducible refine (bits_RotateLeft32.calls a0 (wrap64 (32 - a1)) t115 _ A5.out).mono ?_); rintro e w' ⟨rfl, ⟨nd, rfl⟩⟩; (try first | exact ⟨rfl, _, World.drewN_drewN _ _ _⟩ | exact ⟨rfl, _, Eq.trans (World.drewN_drewN _ _ _) (congrArg (World.drewN _) (Nat.add_assoc _ _ _))⟩)) | (go_at_call 125; (with_reducible refine (bits_RotateLeft32.calls a0 (wrap64 (32 - a2)) t116 _ A6.out).mono ?_); rintro e w' ⟨rfl, ⟨nd, rfl⟩⟩; (try first | exact ⟨rfl, _, World.drewN_drewN _ _ _⟩ | exact ⟨rfl, _, Eq.trans (World.drewN_drewN _ _ _) (congrArg (World.drewN _) (Nat.add_assoc _ _ _))⟩))); try go_wp2_with (first | (go_at_call 125; (with_reducible refine (bits_RotateLeft32.calls a0 (wrap64 (32 - a1)) t115 _ A5.out).mono ?_); rintro e w' ⟨rfl, ⟨nd, rfl⟩⟩; (try first | exact ⟨rfl, _, World.drewN_drewN _ _ _⟩ | exact ⟨rfl, _, Eq.trans (World.drewN_drewN _ _ _) (congrArg (World.drewN _) (Nat.add_assoc _ _ _))⟩)) | (go_at_call 125; (with_reducible refine (bits_RotateLeft32.calls a0 (wrap64 (32 - a2)) t116 _ A6.out).mono ?_); rintro e w' ⟨rfl, ⟨nd, rfl⟩⟩; (try first | exact ⟨rfl, _, World.drewN_drewN _ _ _⟩ | exact ⟨rfl, _, Eq.trans (World.drewN_drewN _ _ _) (congrArg (World.drewN _) (Nat.add_assoc _ _ _))⟩))))
    go_ret
    exact ⟨by first | rfl | (simp; done) | (simp only [← hji8] <;> (first | rfl | simp)) | (simp [*]; done), by repeat (first | exact Drawn0.refl _ | apply Drawn0.step)⟩
  · rw [if_neg c7] at H
    exact absurd H (by simp)
end Go.Proofs.YteamljekjncbfaaDoor.P
end
section
namespace Go.Proofs.YteamljekjncbfaaDoor.P
open Go.RowKit Go.Proofs.YteamljekjncbfaaDoorW.PrintWords Go.Proofs.YteamljekjncbfaaDoorW.PrintLast Go.Proofs.YteamljekjncbfaaDoorW.PrintMore
attribute [local go_sem] max2_int min2_int max_two min_two max_three min_three max_four min_four
set_option linter.unusedVariables false
set_option linter.unusedSimpArgs false
def sha_sigma.f (a0 : Int) (a1 : Int) (a2 : Int) (a3 : Int) : Option (Int) := (bits_RotateLeft32.f a0 (wrap64 (32 - a1))).bind fun t117 => ((bits_RotateLeft32.f a0 (wrap64 (32 - a2))).bind fun t118 => ((bits_RotateLeft32.f a0 (wrap64 (32 - a3))).bind fun t119 => (some (Go.bits .xor .u32 (Go.bits .xor .u32 t117 t118) t119))))
set_option maxHeartbeats 8000000 in
set_option maxRecDepth 100000 in
theorem sha_sigma.calls (a0 : Int) (a1 : Int) (a2 : Int) (a3 : Int) (r : Int) (w : World) (h : sha_sigma.f a0 a1 a2 a3 = some r) :
    Calls Tryd.prog 123 #[.int .u32 a0, .int .i64 a1, .int .i64 a2, .int .i64 a3] w fun e w' => e = .returned (.int .u32 r) ∧ Drawn0 w w' := by
  have H : ((bits_RotateLeft32.f a0 (wrap64 (32 - a1))).bind fun t117 => ((bits_RotateLeft32.f a0 (wrap64 (32 - a2))).bind fun t118 => ((bits_RotateLeft32.f a0 (wrap64 (32 - a3))).bind fun t119 => (some (Go.bits .xor .u32 (Go.bits .xor .u32 t117 t118) t119))))) = some r := h
  clear h
  replace H := Option.bind_eq_some_iff.mp H
  obtain ⟨t117, A50, H⟩ := H
  replace H : ((bits_RotateLeft32.f a0 (wrap64 (32 - a2))).bind fun t118 => ((bits_RotateLeft32.f a0 (wrap64 (32 - a3))).bind fun t119 => (some (Go.bits .xor .u32 (Go.bits .xor .u32 t117 t118) t119)))) = some r := H
  have A5 := Aside0.mk A50
  clear A50
  replace H := Option.bind_eq_some_iff.mp H
  obtain ⟨t118, A60, H⟩ := H
  replace H : ((bits_RotateLeft32.f a0 (wrap64 (32 - a3))).bind fun t119 => (some (Go.bits .xor .u32 (Go.bits .xor .u32 t117 t118) t119))) = some r := H
  have A6 := Aside0.mk A60
  clear A60
  replace H := Option.bind_eq_some_iff.mp H
  obtain ⟨t119, A70, H⟩ := H
  replace H : (some (Go.bits .xor .u32 (Go.bits .xor .u32 t117 t118) t119)) = some r := H
  have A7 := Aside0.mk A70
  clear A70
  obtain rfl := Option.some.inj H
  go_enter Tryd.func123, Tryd.ntmps123
  go_wp2_with (first | ((with_reducible refine gate_callee (f := 125) rfl ?_); refine goesL_ (some 12) rfl rfl Tryd.func125 (by kernel_rfl) rfl #[.int .u32 a0, .int .i64 (wrap64 (32 - a1))] rfl (by (try simp only [List.map_toArray, List.map_cons, List.map_nil]); first | done | rfl | (simp only [List.length_drop, List.length_take]; rfl)) ?_; (with_reducible refine (bits_RotateLeft32.calls a0 (wrap64 (32 - a1)) t117 _ A5.out).mono ?_); rintro e w' ⟨rfl, ⟨nd, rfl⟩⟩; refine ⟨_, rfl, ?_⟩) | ((with_reducible refine gate_callee (f := 125) rfl ?_); refine goesL_ (some 16) rfl rfl Tryd.func125 (by kernel_rfl) rfl #[.int .u32 a0, .int .i64 (wrap64 (32 - a2))] rfl (by (try simp only [List.map_toArray, List.map_cons, List.map_nil]); first | done | rfl | (simp only [List.length_drop, List.length_take]; rfl)) ?_; (with_reducible refine (bits_RotateLeft32.calls a0 (wrap64 (32 - a2)) t118 _ A6.out).mono ?_); rintro e w' ⟨rfl, ⟨nd, rfl⟩⟩; refine ⟨_, rfl, ?_⟩) | ((with_reducible refine gate_callee (f := 125) rfl ?_); refine goesL_ (some 21) rfl rfl Tryd.func125 (by kernel_rfl) rfl #[.int .u32 a0, .int .i64 (wrap64 (32 - a3))] rfl (by (try simp only [List.map_toArray, List.map_cons, List.map_nil]); first | done | rfl | (simp only [List.length_drop, List.length_take]; rfl)) ?_; (with_reducible refine (bits_RotateLeft32.calls a0 (wrap64 (32 - a3)) t119 _ A7.out).mono ?_); rintro e w' ⟨rfl, ⟨nd, rfl⟩⟩; refine ⟨_, rfl, ?_⟩))
  go_ret
  exact ⟨by first | rfl | (simp; done) | (simp [*]; done), by repeat (first | exact Drawn0.refl _ | apply Drawn0.step)⟩
end Go.Proofs.YteamljekjncbfaaDoor.P
end
