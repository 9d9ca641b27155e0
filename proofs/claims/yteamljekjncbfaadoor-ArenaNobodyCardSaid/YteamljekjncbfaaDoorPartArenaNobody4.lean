/- Lemmas of this claim, part 4. -/
import Derived.Test.YteamljekjncbfaaDoorPartArenaNobody1
import Derived.Test.YteamljekjncbfaaDoorPartArenaNobody3
import Derived.Test.YteamljekjncbfaaDoorPartArenaNobody2
import Derived.Outline
import Derived.Laws.CopyOwn
section
namespace Go.Proofs.YteamljekjncbfaaDoor.P
open Go.RowKit Go.Proofs.YteamljekjncbfaaDoorW.PrintWords Go.Proofs.YteamljekjncbfaaDoorW.PrintLast Go.Proofs.YteamljekjncbfaaDoorW.PrintMore
attribute [local go_sem] max2_int min2_int max_two min_two max_three min_three max_four min_four
set_option linter.unusedVariables false
set_option linter.unusedSimpArgs false
def texts_Hash.f (k : Nat) (a0 : Int) (a1 : Int) (l2 : List (List Int)) : Option (List Int) := (texts_Text.f k a1 l2).bind fun bt120 => (if bt120.2 = 0 then ((sha_Cut.f a0 bt120.1).bind fun t124 => (some t124)) else (some ([] : List Int)))
theorem texts_Hash.mono : ∀ a0 a1 a2 k, LeO (texts_Hash.f k a0 a1 a2) (texts_Hash.f (k + 1) a0 a1 a2) := by
  intro a0 a1 a2 k
  unfold texts_Hash.f
  repeat' first
      | (with_reducible exact texts_Text.mono _ _ _)
      | (with_reducible exact LeO.refl _)
      | (with_reducible exact LeO.none _)
      | (with_reducible refine LeO.ite ?_ ?_)
      | (with_reducible refine LeO.bind ?_ (fun _ => ?_))
      | exact texts_Text.mono _ _ _
      | exact LeO.none _
      | refine LeO.ite ?_ ?_
      | refine LeO.bind ?_ (fun _ => ?_)
set_option maxHeartbeats 8000000 in
set_option maxRecDepth 100000 in
theorem texts_Hash.calls (k : Nat) (a0 : Int) (a1 : Int) (A2 : Option Addr) (c2 : Nat) (l2 : List (List Int)) (r : List Int) (w : World) (hr2 : Kd.C (Kd.slice 5 (Kd.int .u8)) w A2 l2.length l2) (hc2 : l2.length ≤ c2) (hGS : GlobS w) (h : texts_Hash.f k a0 a1 l2 = some r) :
    Calls Tryd.prog 55 #[.int .i64 a0, .int .i64 a1, .slice A2 l2.length c2] w fun e w' => ∃ v0_ : Value, e = .returned (v0_) ∧ Kd.V (Kd.int .u8) 5 w' w.heap.size (fun k_ => (w.heap.size ≤ k_)) v0_ r ∧ Below w.heap.size w w' := by
  have HGS := Aside0.mk hGS
  clear hGS
  have HR2 := Aside0.mk hr2
  have HC2 := Aside0.mk hc2
  clear hr2 hc2
  have HB := Aside0.mk (Below.refl w.heap.size w)
  have H : ((texts_Text.f k a1 l2).bind fun bt120 => (if bt120.2 = 0 then ((sha_Cut.f a0 bt120.1).bind fun t124 => (some t124)) else (some ([] : List Int)))) = some r := h
  clear h
  replace H := Option.bind_eq_some_iff.mp H
  obtain ⟨⟨t120, t121⟩, A40, H⟩ := H
  replace H : (if t121 = 0 then ((sha_Cut.f a0 t120).bind fun t124 => (some t124)) else (some ([] : List Int))) = some r := H
  have A4 := Aside0.mk A40
  clear A40
  by_cases c5 : t121 = 0
  · rw [if_pos c5] at H
    have c5b0 : (t121 == 0) = true := beq_iff_eq.mpr c5
    have c5b1 : (t121 != 0) = false := bne_eq_false_iff_eq.mpr c5
    clear c5
    replace H := Option.bind_eq_some_iff.mp H
    obtain ⟨t124, A60, H⟩ := H
    replace H : (some t124) = some r := H
    have A6 := Aside0.mk A60
    clear A60
    obtain rfl := Option.some.inj H
    go_enter Tryd.func55, Tryd.ntmps55
    go_wp2_with (first | ((with_reducible refine gate_callee (f := 89) rfl ?_); refine goesL_ (some 12) rfl rfl Tryd.func89 (by kernel_rfl) rfl #[.int .i64 a1, .slice A2 l2.length c2] rfl (by (try simp only [List.map_toArray, List.map_cons, List.map_nil]); first | done | rfl | (simp only [List.length_drop, List.length_take]; rfl)) ?_; (with_reducible refine (texts_Text.calls k a1 _ _ l2 t120 t121 _ ?side1 ?side2 A4.out).mono ?_); (case side1 => repeat (first | exact HR2.out | (with_reducible refine Kd.C_alloc ?_ _) | (with_reducible refine Kd.C_drewN ?_ _) | (with_reducible refine Kd.C_drew ?_))); (case side2 => exact HC2.out); rintro e w7 ⟨v122, rfl, ho0, hb⟩; refine ⟨_, rfl, ?_⟩; have n0_ := Aside0.mk (Kd.R_lower (Kd.R_newM (M := fun k_ => (w.heap.size ≤ k_)) ho0 (below_size (by repeat (first | (with_reducible first | exact HB.out | apply below_alloc | apply pw_below_drewN | apply below_drew1) | exact HB.out))) (fun k_ h_ => h_)) (below_size (by repeat (first | (with_reducible first | exact HB.out | apply below_alloc | apply pw_below_drewN | apply below_drew1) | exact HB.out)))); have n1_ := Aside0.mk (below_step (by repeat (first | (with_reducible first | exact HB.out | apply below_alloc | apply pw_below_drewN | apply below_drew1) | exact HB.out)) hb); clear HB; have HO123 := n0_; have HB := n1_; clear n0_ n1_; (try clear hb); (try clear hb2); (try clear hk); (try clear hi); (try clear ho0); obtain ⟨Ao8, co8, eo8⟩ := Kd.R_slice HO123.out; subst eo8) | ((with_reducible refine gate_callee (f := 90) rfl ?_); refine goesL_ (some 19) rfl rfl Tryd.func90 (by kernel_rfl) rfl #[.int .i64 a0, .slice Ao8 t120.length co8] rfl (by (try simp only [List.map_toArray, List.map_cons, List.map_nil]); first | done | rfl | (simp only [List.length_drop, List.length_take]; rfl)) ?_; (with_reducible refine (sha_Cut.calls a0 _ _ t120 t124 _ ?side1 ?side2 (by first | (with_reducible exact HGS.out) | exact GlobS.of HGS.out (by repeat (first | (with_reducible first | exact HB.out | apply below_alloc | apply pw_below_drewN | apply below_drew1) | exact HB.out)) | exact GlobS.of HGS.out (by repeat (first | exact Below.refl _ _ | apply below_alloc | apply pw_below_drewN | apply below_drew1))) A6.out).mono ?_); (case side1 => repeat (first | exact (Kd.R_reads' HO123.out).2.2 | (with_reducible refine Kd.C_alloc ?_ _) | (with_reducible refine Kd.C_drewN ?_ _) | (with_reducible refine Kd.C_drew ?_))); (case side2 => exact (Kd.R_reads' HO123.out).2.1); rintro e w9 ⟨v125, rfl, ho0, hb⟩; refine ⟨_, rfl, ?_⟩; have n0_ := Aside0.mk (Kd.R_below (by (with_reducible repeat (first | apply Kd.R_alloc | apply Kd.R_drewN | apply Kd.R_drew)); exact HO123.out) hb); have n1_ := Aside0.mk (Kd.V_lower (Kd.V_mono (ok' := fun k_ => (w.heap.size ≤ k_) ∧ some k_ ≠ (.slice Ao8 t120.length co8 : Value).ownBlock) ho0 (fun k_ hk_ => ⟨(Nat.le_trans (below_size (by repeat (first | (with_reducible first | exact HB.out | apply below_alloc | apply pw_below_drewN | apply below_drew1) | exact HB.out))) hk_), (Kd.fresh' (Kd.R_lt (by (with_reducible repeat (first | apply Kd.R_alloc | apply Kd.R_drewN | apply Kd.R_drew)); exact HO123.out)) k_ hk_)⟩)) (below_size (by repeat (first | (with_reducible first | exact HB.out | apply below_alloc | apply pw_below_drewN | apply below_drew1) | exact HB.out)))); have n2_ := Aside0.mk (below_step (by repeat (first | (with_reducible first | exact HB.out | apply below_alloc | apply pw_below_drewN | apply below_drew1) | exact HB.out)) hb); clear HO123; clear HB; have HO123 := n0_; have HO126 := n1_; have HB := n2_; clear n0_ n1_ n2_; (try clear hb); (try clear hb2); (try clear hk); (try clear hi); (try clear ho0)))
    go_ret
    exact ⟨_, by first | rfl | (simp [errW_none, errW_some] <;> rfl) | (simp [*, errW_none, errW_some] <;> rfl), by (with_reducible repeat (first | apply Kd.V_alloc | apply Kd.V_drewN | apply Kd.V_drew)); exact Kd.V_mono HO126.out (fun _ hk => hk.1), by repeat (first | (with_reducible first | exact HB.out | apply below_alloc | apply pw_below_drewN | apply below_drew1) | exact HB.out)⟩
  · rw [if_neg c5] at H
    have c5b0 : (t121 == 0) = false := beq_eq_false_iff_ne.mpr c5
    have c5b1 : (t121 != 0) = true := bne_iff_ne.mpr c5
    obtain rfl := Option.some.inj H
    go_enter Tryd.func55, Tryd.ntmps55
    go_wp2_with (first | ((with_reducible refine gate_callee (f := 89) rfl ?_); refine goesL_ (some 12) rfl rfl Tryd.func89 (by kernel_rfl) rfl #[.int .i64 a1, .slice A2 l2.length c2] rfl (by (try simp only [List.map_toArray, List.map_cons, List.map_nil]); first | done | rfl | (simp only [List.length_drop, List.length_take]; rfl)) ?_; (with_reducible refine (texts_Text.calls k a1 _ _ l2 t120 t121 _ ?side1 ?side2 A4.out).mono ?_); (case side1 => repeat (first | exact HR2.out | (with_reducible refine Kd.C_alloc ?_ _) | (with_reducible refine Kd.C_drewN ?_ _) | (with_reducible refine Kd.C_drew ?_))); (case side2 => exact HC2.out); rintro e w10 ⟨v122, rfl, ho0, hb⟩; refine ⟨_, rfl, ?_⟩; have n0_ := Aside0.mk (Kd.R_lower (Kd.R_newM (M := fun k_ => (w.heap.size ≤ k_)) ho0 (below_size (by repeat (first | (with_reducible first | exact HB.out | apply below_alloc | apply pw_below_drewN | apply below_drew1) | exact HB.out))) (fun k_ h_ => h_)) (below_size (by repeat (first | (with_reducible first | exact HB.out | apply below_alloc | apply pw_below_drewN | apply below_drew1) | exact HB.out)))); have n1_ := Aside0.mk (below_step (by repeat (first | (with_reducible first | exact HB.out | apply below_alloc | apply pw_below_drewN | apply below_drew1) | exact HB.out)) hb); clear HB; have HO123 := n0_; have HB := n1_; clear n0_ n1_; (try clear hb); (try clear hb2); (try clear hk); (try clear hi); (try clear ho0)))
    go_ret
    exact ⟨_, by first | rfl | (simp [errW_none, errW_some] <;> rfl) | (simp [*, errW_none, errW_some] <;> rfl), (by first | exact Kd.V_nil _ _ _ _ _ | exact Kd.R_V (by first | exact Kd.R_nil _ _ _ _ _ | exact Kd.N_nil _ _ _ _ _ | exact Kd.Q_nil _ _ _ _ _ | exact Kd.S_nil _ _ _ _ _)), by repeat (first | (with_reducible first | exact HB.out | apply below_alloc | apply pw_below_drewN | apply below_drew1) | exact HB.out)⟩
end Go.Proofs.YteamljekjncbfaaDoor.P
end
section
set_option linter.unusedVariables false
set_option linter.unusedSimpArgs false
namespace Go.Proofs.YteamljekjncbfaaDoor.P
open Go.RowKit Go.Proofs.YteamljekjncbfaaDoorW.PrintWords Go.Proofs.YteamljekjncbfaaDoorW.PrintLast Go.Proofs.YteamljekjncbfaaDoorW.PrintMore
theorem IsBytes.V {w : World} {g t e n base : Nat} {xs : List Int} (h : IsBytes w g t xs) (hb : base ≤ g) (hn : xs.length = n) (hm : n ≤ 9223372036854775807) : Kd.V (Kd.int .u8) e w base (fun k_ => base ≤ k_) (.slice (some ⟨g, 0, none⟩) n n) xs := by
  subst hn
  refine Kd.V_mk (Nat.le_refl _) ?_
  intro W' hW
  have h2 : IsBytes W' g t xs := (hW g hb h.lt).trans h
  have := h2.C (o := 0) (n := xs.length) (by omega) hm
  simpa using this
def numRun : Nat → Int → List Int → List Int
  | 0, _, ys => ys
  | i + 1, x, ys => numRun i (x / 256) (ys.set i (x % 256))
def numBytes (n : Int) : List Int := numRun 8 n (List.replicate 8 0)
def texts_Number.f (a0 : Int) : Option (List Int) := some (numBytes a0)
set_option maxHeartbeats 1000000 in
set_option maxRecDepth 100000 in
theorem texts_Number.calls (a0 : Int) (r : List Int) (w : World) (h : texts_Number.f a0 = some r) :
    Calls Tryd.prog 56 #[.int .i64 a0] w fun e w' => ∃ v0_ : Value, e = .returned (v0_) ∧ Kd.V (Kd.int .u8) 5 w' w.heap.size (fun k_ => w.heap.size ≤ k_) v0_ r ∧ Below w.heap.size w w' := by
  obtain rfl := Option.some.inj h
  clear h
  go_enter Tryd.func56, Tryd.ntmps56
  go_wp2_with fail
  obtain ⟨g, hg⟩ : ∃ g, g = w.heap.size := ⟨_, rfl⟩
  rw [← hg]
  have HG := Aside0.mk hg
  have hge : w.heap.size ≤ g := by omega
  clear hg
  go_loopw [0, 4] (fun v0 v4 wr => ∃ (i : Nat) (x : Int) (ys : List Int), i ≤ 8 ∧ v0 = .int .i64 x ∧ v4 = .int .i64 (i : Int) ∧ Aside0 (ys.length = 8) ∧ Aside0 (numRun i x ys = numBytes a0) ∧ Aside0 (IsBytes wr g 122 ys) ∧ Aside0 (Below w.heap.size w wr)) (fun _ v4 _ => (intOf v4).toNat)
  case atStart => exact ⟨8, a0, List.replicate 8 0, by omega, rfl, rfl, ⟨by rfl⟩, ⟨rfl⟩, ⟨by rw [HG.out]; exact heap_alloc_new w _⟩, ⟨below_alloc (Below.refl _ _) _⟩⟩
  case round =>
    obtain ⟨i, x, ys, hi, rfl, rfl, HL, HT, HI, HB⟩ := hrel
    by_cases hi0 : 0 < i
    · have hd : decide ((0 : Int) < (i : Int)) = true := by simp; omega
      obtain ⟨i, rfl⟩ : ∃ j, i = j + 1 := ⟨i - 1, by omega⟩
      have e1 : ((i + 1 : Nat) : Int) - 1 = (i : Int) := by omega
      have e2 : IntKind.i64.wrap (i : Int) = (i : Int) := by rw [IntKind.wrap_i64]; omega
      have hi8 : (i : Int) < 8 := by omega
      have hc := HI.out.cell i (by have := HL.out; omega)
      have hf := HI.out.frozen i
      go_wp2_with fail
      refine ⟨⟨i, x / 256, ys.set i (x % 256), by omega, rfl, rfl, ⟨by rw [List.length_set]; exact HL.out⟩, ⟨HT.out⟩, ⟨HI.out.set i _⟩, ⟨HB.out.setCell (by show w.heap.size ≤ g; exact hge) _⟩⟩, by simp only [intOf]; omega⟩
    · obtain rfl : i = 0 := by omega
      have hd : decide ((0 : Int) < ((0 : Nat) : Int)) = false := by decide
      go_wp2_with fail
      go_ret
      exact ⟨_, rfl, by rw [← HT.out]; exact HI.out.V hge HL.out (by decide), HB.out⟩
end Go.Proofs.YteamljekjncbfaaDoor.P
end
section
namespace Go.Proofs.YteamljekjncbfaaDoor.P
open Go.RowKit Go.Proofs.YteamljekjncbfaaDoorW.PrintWords Go.Proofs.YteamljekjncbfaaDoorW.PrintLast Go.Proofs.YteamljekjncbfaaDoorW.PrintMore
attribute [local go_sem] max2_int min2_int max_two min_two max_three min_three max_four min_four
set_option linter.unusedVariables false
set_option linter.unusedSimpArgs false
def arena_LeafHash.f (k : Nat) (a0 : Int) (l1 : List Int) (l2 : List Int) (a3 : Int) : Option (List Int) := (texts_Number.f a3).bind fun t127 => ((texts_Hash.f k a0 1 (([l1, l2, t127] : List (List Int)))).bind fun t133 => (some t133))
theorem arena_LeafHash.mono : ∀ a0 a1 a2 a3 k, LeO (arena_LeafHash.f k a0 a1 a2 a3) (arena_LeafHash.f (k + 1) a0 a1 a2 a3) := by
  intro a0 a1 a2 a3 k
  unfold arena_LeafHash.f
  repeat' first
      | (with_reducible exact texts_Hash.mono _ _ _ _)
      | (with_reducible exact LeO.refl _)
      | (with_reducible exact LeO.none _)
      | (with_reducible refine LeO.ite ?_ ?_)
      | (with_reducible refine LeO.bind ?_ (fun _ => ?_))
      | exact texts_Hash.mono _ _ _ _
      | exact LeO.none _
      | refine LeO.ite ?_ ?_
      | refine LeO.bind ?_ (fun _ => ?_)
set_option maxHeartbeats 8000000 in
set_option maxRecDepth 100000 in
theorem arena_LeafHash.calls (k : Nat) (a0 : Int) (P1_ : Nat → Prop) (A1 : Option Addr) (c1 : Nat) (l1 : List Int) (P2_ : Nat → Prop) (A2 : Option Addr) (c2 : Nat) (l2 : List Int) (a3 : Int) (r : List Int) (w : World) (hs1 : Kd.V (Kd.int .u8) 5 w w.heap.size (fun k_ => P1_ k_) (.slice A1 l1.length c1) l1) (hs2 : Kd.V (Kd.int .u8) 5 w w.heap.size (fun k_ => P2_ k_) (.slice A2 l2.length c2) l2) (hGS : GlobS w) (h : arena_LeafHash.f k a0 l1 l2 a3 = some r) :
    Calls Tryd.prog 25 #[.int .i64 a0, .slice A1 l1.length c1, .slice A2 l2.length c2, .int .i64 a3] w fun e w' => ∃ v0_ : Value, e = .returned (v0_) ∧ Kd.V (Kd.int .u8) 5 w' w.heap.size (fun k_ => ((P1_ k_ ∨ P2_ k_) ∨ w.heap.size ≤ k_)) v0_ r ∧ Below w.heap.size w w' := by
  have HGS := Aside0.mk hGS
  clear hGS
  have HO1 := Aside0.mk (show Kd.V (Kd.int .u8) 5 w w.heap.size (fun k_ => ((P1_ k_ ∨ P2_ k_) ∨ w.heap.size ≤ k_)) (.slice A1 l1.length c1) l1 from Kd.V_mono hs1 (fun k_ hk => .inl (.inl hk)))
  have HO2 := Aside0.mk (show Kd.V (Kd.int .u8) 5 w w.heap.size (fun k_ => ((P1_ k_ ∨ P2_ k_) ∨ w.heap.size ≤ k_)) (.slice A2 l2.length c2) l2 from Kd.V_mono hs2 (fun k_ hk => .inl (.inr hk)))
  have HB := Aside0.mk (Below.refl w.heap.size w)
  have H : ((texts_Number.f a3).bind fun t127 => ((texts_Hash.f k a0 1 (([l1, l2, t127] : List (List Int)))).bind fun t133 => (some t133))) = some r := h
  clear h
  replace H := Option.bind_eq_some_iff.mp H
  obtain ⟨t127, A50, H⟩ := H
  replace H : ((texts_Hash.f k a0 1 (([l1, l2, t127] : List (List Int)))).bind fun t133 => (some t133)) = some r := H
  have A5 := Aside0.mk A50
  clear A50
  obtain ⟨y130, hy130⟩ : ∃ y_ : List (List Int), y_ = (([l1, l2, t127] : List (List Int))) := ⟨_, rfl⟩
  replace H : ((texts_Hash.f k a0 1 y130).bind fun t133 => (some t133)) = some r := by first | (rw [hy130]; with_reducible exact H) | (have H2_ := (Option.bind_some _ _).symm.trans H; rw [hy130]; with_reducible exact H2_) | (have H2_ := (Option.bind_some _ _).symm.trans H; with_reducible exact H2_) | with_reducible exact H | (rw [hy130]; exact H) | exact H
  have Ny130 := Aside0.mk hy130
  clear hy130
  replace H := Option.bind_eq_some_iff.mp H
  obtain ⟨t133, A60, H⟩ := H
  replace H : (some t133) = some r := H
  have A6 := Aside0.mk A60
  clear A60
  obtain rfl := Option.some.inj H
  go_enter Tryd.func25, Tryd.ntmps25
  go_wp2_with (first | ((with_reducible refine gate_callee (f := 56) rfl ?_); refine goesL_ (some 13) rfl rfl Tryd.func56 (by kernel_rfl) rfl #[.int .i64 a3] rfl (by (try simp only [List.map_toArray, List.map_cons, List.map_nil]); first | done | rfl | (simp only [List.length_drop, List.length_take]; rfl)) ?_; (with_reducible refine (texts_Number.calls a3 t127 _ A5.out).mono ?_); rintro e w7 ⟨v128, rfl, ho0, hb⟩; refine ⟨_, rfl, ?_⟩; have n0_ := Aside0.mk (Kd.V_below (by (with_reducible repeat (first | apply Kd.V_alloc | apply Kd.V_drewN | apply Kd.V_drew)); exact HO1.out) hb); have n1_ := Aside0.mk (Kd.V_below (by (with_reducible repeat (first | apply Kd.V_alloc | apply Kd.V_drewN | apply Kd.V_drew)); exact HO2.out) hb); have n2_ := Aside0.mk (Kd.V_lower (Kd.V_mono (ok' := fun k_ => ((P1_ k_ ∨ P2_ k_) ∨ w.heap.size ≤ k_)) ho0 (fun k_ hk_ => (.inr (Nat.le_trans (below_size (by repeat (first | (with_reducible first | exact HB.out | apply below_alloc | apply pw_below_drewN | apply below_drew1) | exact HB.out))) hk_)))) (below_size (by repeat (first | (with_reducible first | exact HB.out | apply below_alloc | apply pw_below_drewN | apply below_drew1) | exact HB.out)))); have n3_ := Aside0.mk (below_step (by repeat (first | (with_reducible first | exact HB.out | apply below_alloc | apply pw_below_drewN | apply below_drew1) | exact HB.out)) hb); clear HO1; clear HO2; clear HB; have HO1 := n0_; have HO2 := n1_; have HO129 := n2_; have HB := n3_; clear n0_ n1_ n2_ n3_; (try clear hb); (try clear hb2); (try clear hk); (try clear hi); (try clear ho0); obtain ⟨Ao8, co8, eo8⟩ := Kd.V_slice HO129.out; subst eo8) | ((with_reducible refine gate_dst (N := 14) rfl ?_); refine Kd.N_lit (Kd.slice 5 (Kd.int .u8)) _ 33 ?hg (N' := 14) ?hd (xs := ([l1, l2, t127] : List (List Int))) (inner := [.slice A1 l1.length c1, .slice A2 l2.length c2, .slice Ao8 t127.length co8]) (ok := (fun k_ => ((P1_ k_ ∨ P2_ k_) ∨ w.heap.size ≤ k_))) (okp := (fun k_ => ((P1_ k_ ∨ P2_ k_) ∨ w.heap.size ≤ k_))) ?hr ?hp (fun _ hk => hk) ((show ∀ k_, w7.heap.size ≤ k_ → (fun k_ => ((P1_ k_ ∨ P2_ k_) ∨ w.heap.size ≤ k_)) k_ from fun k_ hk => (.inr (Nat.le_trans (below_size (by repeat (first | (with_reducible first | exact HB.out | apply below_alloc | apply pw_below_drewN | apply below_drew1) | exact HB.out))) hk))) _ (Nat.le_refl _)) (Below.refl _ _) (Nat.le_refl _) (by simp) ?_; (case hd => rfl); (case hg => rfl); (case hr => first | (go_simp; done) | (go_simp; rfl)); (case hp => exact (Reps.one (show Kd.FK (Kd.slice 5 (Kd.int .u8)) _ _ l1 [.slice A1 l1.length c1] from (Kd.FK_slice_mk (Kd.V_reads' (Kd.V_mono (ok' := (fun k_ => ((P1_ k_ ∨ P2_ k_) ∨ w.heap.size ≤ k_))) (HO1.out) (fun k_ hk => hk))).2.1 (Kd.V_F (Kd.V_mono (ok' := (fun k_ => ((P1_ k_ ∨ P2_ k_) ∨ w.heap.size ≤ k_))) (HO1.out) (fun k_ hk => hk))))) (Reps.one (show Kd.FK (Kd.slice 5 (Kd.int .u8)) _ _ l2 [.slice A2 l2.length c2] from (Kd.FK_slice_mk (Kd.V_reads' (Kd.V_mono (ok' := (fun k_ => ((P1_ k_ ∨ P2_ k_) ∨ w.heap.size ≤ k_))) (HO2.out) (fun k_ hk => hk))).2.1 (Kd.V_F (Kd.V_mono (ok' := (fun k_ => ((P1_ k_ ∨ P2_ k_) ∨ w.heap.size ≤ k_))) (HO2.out) (fun k_ hk => hk))))) (Reps.one (show Kd.FK (Kd.slice 5 (Kd.int .u8)) _ _ t127 [.slice Ao8 t127.length co8] from (Kd.FK_slice_mk (Kd.V_reads' (Kd.V_mono (ok' := (fun k_ => ((P1_ k_ ∨ P2_ k_) ∨ w.heap.size ≤ k_))) (HO129.out) (fun k_ hk => hk))).2.1 (Kd.V_F (Kd.V_mono (ok' := (fun k_ => ((P1_ k_ ∨ P2_ k_) ∨ w.heap.size ≤ k_))) (HO129.out) (fun k_ hk => hk))))) (Reps.none _ _))))); intro v131 w9 ho10 hb hg_ hnew_; clear hg_ hnew_; (first | rw [← Ny130.out] at ho10 | (simp only [Int.reduceToNat] at ho10; rw [← Ny130.out] at ho10)); have n0_ := Aside0.mk (Kd.V_elder' (by (with_reducible repeat (first | apply Kd.V_alloc | apply Kd.V_drewN | apply Kd.V_drew)); exact HO1.out) (Kd.N_base ho10) hb); have n1_ := Aside0.mk (Kd.V_elder' (by (with_reducible repeat (first | apply Kd.V_alloc | apply Kd.V_drewN | apply Kd.V_drew)); exact HO2.out) (Kd.N_base ho10) hb); have n2_ := Aside0.mk (Kd.V_elder' (by (with_reducible repeat (first | apply Kd.V_alloc | apply Kd.V_drewN | apply Kd.V_drew)); exact HO129.out) (Kd.N_base ho10) hb); have n3_ := Aside0.mk (Kd.N_lower ho10 (below_size (by repeat (first | (with_reducible first | exact HB.out | apply below_alloc | apply pw_below_drewN | apply below_drew1) | exact HB.out)))); have n4_ := Aside0.mk (below_step (by repeat (first | (with_reducible first | exact HB.out | apply below_alloc | apply pw_below_drewN | apply below_drew1) | exact HB.out)) hb); clear HO1; clear HO2; clear HO129; clear HB; have HO1 := n0_; have HO2 := n1_; have HO129 := n2_; have HO132 := n3_; have HB := n4_; clear n0_ n1_ n2_ n3_ n4_; clear hb ho10; obtain ⟨Ao11, co11, eo11⟩ := Kd.N_slice HO132.out; subst eo11) | ((with_reducible refine gate_callee (f := 55) rfl ?_); refine goesL_ (some 15) rfl rfl Tryd.func55 (by kernel_rfl) rfl #[.int .i64 a0, .int .i64 1, .slice Ao11 y130.length co11] rfl (by (try simp only [List.map_toArray, List.map_cons, List.map_nil]); first | done | rfl | (simp only [List.length_drop, List.length_take]; rfl)) ?_; (with_reducible refine (texts_Hash.calls k a0 1 _ _ y130 t133 _ ?side1 ?side2 (by first | (with_reducible exact HGS.out) | exact GlobS.of HGS.out (by repeat (first | (with_reducible first | exact HB.out | apply below_alloc | apply pw_below_drewN | apply below_drew1) | exact HB.out)) | exact GlobS.of HGS.out (by repeat (first | exact Below.refl _ _ | apply below_alloc | apply pw_below_drewN | apply below_drew1))) A6.out).mono ?_); (case side1 => repeat (first | exact (Kd.N_reads' HO132.out).2.2 | (with_reducible refine Kd.C_alloc ?_ _) | (with_reducible refine Kd.C_drewN ?_ _) | (with_reducible refine Kd.C_drew ?_))); (case side2 => exact (Kd.N_reads' HO132.out).2.1); rintro e w12 ⟨v134, rfl, ho0, hb⟩; refine ⟨_, rfl, ?_⟩; have n0_ := Aside0.mk (Kd.V_below (by (with_reducible repeat (first | apply Kd.V_alloc | apply Kd.V_drewN | apply Kd.V_drew)); exact HO1.out) hb); have n1_ := Aside0.mk (Kd.V_below (by (with_reducible repeat (first | apply Kd.V_alloc | apply Kd.V_drewN | apply Kd.V_drew)); exact HO2.out) hb); have n2_ := Aside0.mk (Kd.V_below (by (with_reducible repeat (first | apply Kd.V_alloc | apply Kd.V_drewN | apply Kd.V_drew)); exact HO129.out) hb); have n3_ := Aside0.mk (Kd.N_below (by (with_reducible repeat (first | apply Kd.N_alloc | apply Kd.N_drewN | apply Kd.N_drew)); exact HO132.out) hb); have n4_ := Aside0.mk (Kd.V_lower (Kd.V_mono (ok' := fun k_ => ((P1_ k_ ∨ P2_ k_) ∨ w.heap.size ≤ k_) ∧ some k_ ≠ (.slice Ao11 y130.length co11 : Value).ownBlock) ho0 (fun k_ hk_ => ⟨(.inr (Nat.le_trans (below_size (by repeat (first | (with_reducible first | exact HB.out | apply below_alloc | apply pw_below_drewN | apply below_drew1) | exact HB.out))) hk_)), (Kd.fresh' (Kd.N_lt (by (with_reducible repeat (first | apply Kd.N_alloc | apply Kd.N_drewN | apply Kd.N_drew)); exact HO132.out)) k_ hk_)⟩)) (below_size (by repeat (first | (with_reducible first | exact HB.out | apply below_alloc | apply pw_below_drewN | apply below_drew1) | exact HB.out)))); have n5_ := Aside0.mk (below_step (by repeat (first | (with_reducible first | exact HB.out | apply below_alloc | apply pw_below_drewN | apply below_drew1) | exact HB.out)) hb); clear HO1; clear HO2; clear HO129; clear HO132; clear HB; have HO1 := n0_; have HO2 := n1_; have HO129 := n2_; have HO132 := n3_; have HO135 := n4_; have HB := n5_; clear n0_ n1_ n2_ n3_ n4_ n5_; (try clear hb); (try clear hb2); (try clear hk); (try clear hi); (try clear ho0)))
  go_ret
  exact ⟨_, by first | rfl | (simp [errW_none, errW_some] <;> rfl) | (simp [*, errW_none, errW_some] <;> rfl), by (with_reducible repeat (first | apply Kd.V_alloc | apply Kd.V_drewN | apply Kd.V_drew)); exact Kd.V_mono HO135.out (fun _ hk => hk.1), by repeat (first | (with_reducible first | exact HB.out | apply below_alloc | apply pw_below_drewN | apply below_drew1) | exact HB.out)⟩
end Go.Proofs.YteamljekjncbfaaDoor.P
end
section
set_option linter.unusedVariables false
set_option linter.unusedSimpArgs false
namespace Go.Proofs.YteamljekjncbfaaDoor.P
open Go.RowKit Go.Proofs.YteamljekjncbfaaDoorW.PrintWords Go.Proofs.YteamljekjncbfaaDoorW.PrintLast Go.Proofs.YteamljekjncbfaaDoorW.PrintMore
abbrev BytesV (w : World) (ok : Nat → Prop) (v : Value) (l : List Int) : Prop := Kd.V (Kd.int .u8) 5 w w.heap.size ok v l
def LeafPost (P1 P2 : Nat → Prop) (p base : Nat) (size room : Int) (vc : Value) (A' : Option Addr) (c' : Nat) (cs : List (List Value)) (l1 l2 lh : List Int) (since : Int) (w w' : World) : Prop :=
  ∃ v1 B1 d1 B2 d2 B9 d9, ABlk w' p size room v1 (.slice A' 0 c') ∧
        CellsR w' base v1 (cs ++ [[.bool true, .bool true, .slice B1 l1.length d1, .slice B2 l2.length d2, .int .i64 since, .int .i64 0, .slice none 0 0, .int .i64 since, .int .i64 0, .int .i64 0, .slice B9 lh.length d9]]) ∧
        BytesV w' (fun k => (P1 k ∨ P2 k ∨ w.heap.size ≤ k) ∧ k ≠ p ∧ some k ≠ v1.ownBlock) (.slice B1 l1.length d1) l1 ∧ BytesV w' (fun k => (P1 k ∨ P2 k ∨ w.heap.size ≤ k) ∧ k ≠ p ∧ some k ≠ v1.ownBlock) (.slice B2 l2.length d2) l2 ∧ BytesV w' (fun k => (P1 k ∨ P2 k ∨ w.heap.size ≤ k) ∧ k ≠ p ∧ some k ≠ v1.ownBlock) (.slice B9 lh.length d9) lh ∧
        (v1.ownBlock = vc.ownBlock ∨ ∃ b, v1.ownBlock = some b ∧ w.heap.size ≤ b) ∧ KeepBut w w' p vc.ownBlock ∧ (base ≤ w.heap.size → Below base w w')
attribute [local go_sem] max2_int min2_int max_two min_two
set_option maxHeartbeats 4000000 in
set_option maxRecDepth 100000 in
theorem leaf_grow {w : World} {p base : Nat} {size room : Int} {vc : Value} {A' : Option Addr} {c' : Nat} {cs : List (List Value)} (P1 P2 : Nat → Prop) (A1 A2 : Option Addr) (c1 c2 : Nat) (l1 l2 lh : List Int) (since : Int) (k : Nat)
    (h : ABlk w p size room vc (.slice A' 0 c')) (hR : CellsR w base vc cs) (hs : size ≠ 0) (hb : base ≤ p) (hr : (cs.length : Int) < room) (hr1 : room ≤ 4194304)
    (h1 : BytesV w P1 (.slice A1 l1.length c1) l1) (h2 : BytesV w P2 (.slice A2 l2.length c2) l2) (n1 : ∀ k, P1 k → k ≠ p ∧ some k ≠ vc.ownBlock) (n2 : ∀ k, P2 k → k ≠ p ∧ some k ≠ vc.ownBlock)
    (hl1 : l1.length ≤ 65535) (hl2 : l2.length ≤ 65535) (hsi : 0 ≤ since) (hGS : GlobS w) (hf : arena_LeafHash.f k size l1 l2 since = some lh) :
    Calls Tryd.prog 34 #[.pointer (some ⟨p, 0, none⟩), .slice A1 l1.length c1, .slice A2 l2.length c2, .int .i64 since] w
      fun e w' => e = .returned (.tuple #[.int .i64 (cs.length : Int), .int .i64 0]) ∧ LeafPost P1 P2 p base size room vc A' c' cs l1 l2 lh since w w' := by
  obtain ⟨j, hj⟩ : ∃ j : Int, j = if l1.length < l2.length then (l2.length : Int) else (l1.length : Int) := ⟨_, rfl⟩
  have hj1 : decide (65535 < j) = false := decide_eq_false (by rw [hj]; split <;> omega)
  have hj2 := hj.symm
  have hsd : decide (since < 0) = false := decide_eq_false (by omega)
  have HBk := Aside0.mk h
  have HR := Aside0.mk hR
  have HS := Aside0.mk hs
  have HBP := Aside0.mk hb
  have HRL := Aside0.mk hr
  have HRM := Aside0.mk hr1
  have H1 := Aside0.mk h1
  have H2 := Aside0.mk h2
  have HN1 := Aside0.mk n1
  have HN2 := Aside0.mk n2
  have HL1 := Aside0.mk hl1
  have HL2 := Aside0.mk hl2
  have HGS := Aside0.mk hGS
  have HF := Aside0.mk hf
  clear h hR hs hb hr hr1 h1 h2 n1 n2 hl1 hl2 hGS hf hj hsi
  go_enter Tryd.func34, Tryd.ntmps34
  go_wp2_with fail
  refine (none_calls HBk.out HS.out).mono ?_
  rintro e w' ⟨rfl, rfl⟩
  go_wp2_with fail
  refine (slices_Clone_byte_byte.calls A1 c1 l1 l1 _ (Kd.V_reads' H1.out).2.2 (Kd.V_reads' H1.out).2.1 (if_pos (by have := HL1.out; omega))).mono ?_
  rintro e1 w1 ⟨v, rfl, hR1, hB1⟩
  obtain ⟨B1, d1, rfl⟩ := Kd.R_slice hR1
  have HR1 := Aside0.mk hR1
  have HB1 := Aside0.mk hB1
  clear hR1 hB1
  go_wp2_with fail
  refine (slices_Clone_byte_byte.calls A2 c2 l2 l2 _ (Kd.V_reads' (Kd.V_below H2.out HB1.out)).2.2 (Kd.V_reads' H2.out).2.1 (if_pos (by have := HL2.out; omega))).mono ?_
  rintro e2 w2 ⟨v, rfl, hR2, hB2⟩
  obtain ⟨B2, d2, rfl⟩ := Kd.R_slice hR2
  have HR2 := Aside0.mk hR2
  have HB2 := Aside0.mk hB2
  clear hR2 hB2
  have HBk2 := Aside0.mk ((HBk.out.below HB1.out).below HB2.out)
  obtain ⟨k0, k1, k2, k3⟩ := HBk2.out.cells
  have hp2 : p < w2.heap.size := HBk2.out.lt
  go_wp2_with fail
  obtain ⟨W3, hW3⟩ : ∃ W3, W3 = w2.alloc (.cells #[.bool true, .slice B1 l1.length d1, .slice B2 l2.length d2, .int .i64 since, .int .i64 0, .slice none 0 0, .int .i64 since, .int .i64 0, .int .i64 0, .slice none 0 0] 61) := ⟨_, rfl⟩
  rw [← hW3]
  have hB3 : Below w2.heap.size w2 W3 := by rw [hW3]; exact below_alloc (Below.refl _ _) _
  have hB03 : Below w.heap.size w W3 := (HB1.out.trans (HB2.out.mono HB1.out.size)).trans (hB3.mono (by have := HB1.out.size; have := HB2.out.size; omega))
  have hN3 : W3.heap[w2.heap.size]? = some (.cells #[.bool true, .slice B1 l1.length d1, .slice B2 l2.length d2, .int .i64 since, .int .i64 0, .slice none 0 0, .int .i64 since, .int .i64 0, .int .i64 0, .slice none 0 0] 61 (0, 0)) := by rw [hW3]; exact heap_alloc_new w2 _
  have HB3 := Aside0.mk hB3
  have HB03 := Aside0.mk hB03
  have HN3 := Aside0.mk hN3
  clear hB3 hB03 hN3 hW3 k0 k1 k2 k3 hp2
  refine (arena_LeafHash.calls k size (fun k => P1 k ∧ k < w.heap.size) A1 c1 l1 (fun k => P2 k ∧ k < w.heap.size) A2 c2 l2 since lh W3 (Kd.V_below (Kd.V_bound H1.out) HB03.out) (Kd.V_below (Kd.V_bound H2.out) HB03.out) (GlobS.of HGS.out HB03.out) HF.out).mono ?_
  rintro e3 w4 ⟨v, rfl, hV4, hB4⟩
  obtain ⟨B9, d9, rfl⟩ := Kd.V_slice hV4
  have HV4 := Aside0.mk hV4
  have HB4 := Aside0.mk hB4
  have HN4 := Aside0.mk ((hB4.block w2.heap.size (blk_lt HN3.out)).trans HN3.out)
  clear hV4 hB4
  obtain ⟨b, hb⟩ : ∃ b, b = w2.heap.size := ⟨_, rfl⟩
  rw [← hb] at HN4
  rw [← hb]
  have HBE := Aside0.mk hb
  clear hb
  have m0 := blk_cell HN4.out 0
  have m1 := blk_cell HN4.out 1
  have m2 := blk_cell HN4.out 2
  have m3 := blk_cell HN4.out 3
  have m4 := blk_cell HN4.out 4
  have m5 := blk_cell HN4.out 5
  have m6 := blk_cell HN4.out 6
  have m7 := blk_cell HN4.out 7
  have m8 := blk_cell HN4.out 8
  have m9 := blk_cell HN4.out 9
  have f9 := blk_frozen HN4.out 9
  go_wp2_with fail
  have s1 := HB1.out.size
  have s2 := HB2.out.size
  have s3 := HB3.out.size
  have s4 := HB4.out.size
  have hb3 : b < W3.heap.size := by rw [HBE.out]; exact blk_lt HN3.out
  have hpw : p < w.heap.size := HBk.out.lt
  have hbe := HBE.out
  have hB04 : Below w.heap.size w w4 := HB03.out.trans (HB4.out.mono (by omega))
  have hR4 : CellsR (w4.setCell ⟨b, 9, none⟩ (.slice B9 lh.length d9)) base vc cs := Kd.R_set (Kd.R_below HR.out hB04) HN4.out (by decide) 9 _
  have hK4 : ABlk (w4.setCell ⟨b, 9, none⟩ (.slice B9 lh.length d9)) p size room vc (.slice A' 0 c') := blk_far (HBk.out.below hB04) (p := ⟨b, 9, none⟩) (by show p ≠ b; omega) _
  refine (put_grow (base := base) true B1 B2 none B9 l1.length l2.length 0 lh.length d1 d2 0 d9 since 0 since 0 0 hK4 hR4 HS.out HBP.out HRL.out HRM.out).mono ?_
  rintro e5 w5 ⟨rfl, hpost⟩
  have HPO := Aside0.mk hpost
  clear hpost m0 m1 m2 m3 m4 m5 m6 m7 m8 m9 f9 s1 s2 s3 s4 hb3 hpw hbe hB04 hR4 hK4
  go_wp2_with fail
  go_ret2
  have s1 := HB1.out.size
  have s2 := HB2.out.size
  have s3 := HB3.out.size
  have s4 := HB4.out.size
  have hb3 : b < W3.heap.size := by rw [HBE.out]; exact blk_lt HN3.out
  have hpw : p < w.heap.size := HBk.out.lt
  have hbe := HBE.out
  have hB04 : Below w.heap.size w w4 := HB03.out.trans (HB4.out.mono (by omega))
  obtain ⟨v1, hA5, hR5, hat, hkb, hbel⟩ := HPO.out
  refine ⟨rfl, ?_⟩
  unfold LeafPost
  have hown : ∀ k, vc.ownBlock = some k → k < w.heap.size := fun k hk => by
    obtain ⟨inner, ho⟩ := Kd.R_own HR.out
    exact own_lt ho k hk
  have hsz : (w4.setCell ⟨b, 9, none⟩ (.slice B9 lh.length d9)).heap.size = w4.heap.size := by simp [World.setCell]
  have hst : ∀ k, k ≠ p → some k ≠ vc.ownBlock → k ≠ b → k < w4.heap.size → w5.heap[k]? = w4.heap[k]? := fun k h1 h2 h3 h4 => (hkb.2 k (by rw [hsz]; exact h4) h1 h2).trans (Below.heap_setCell w4 ⟨b, 9, none⟩ _ k h3)
  have hv1 : ∀ k, k < w4.heap.size → some k ≠ vc.ownBlock → some k ≠ v1.ownBlock := fun k h1 h2 => by
    rcases hat with h | ⟨q, h, hle⟩
    · rw [h]
      exact h2
    · rw [h]
      intro he
      injection he with he
      rw [hsz] at hle
      omega
  have hne : ∀ k, w.heap.size ≤ k → k ≠ p ∧ some k ≠ vc.ownBlock := fun k hk => ⟨by omega, fun he => by have := hown k he.symm; omega⟩
  have hV1 := Kd.V_below (Kd.V_below (Kd.V_below (Kd.R_V (base' := w.heap.size) (Kd.R_bound HR1.out)) HB2.out) HB3.out) HB4.out
  have hV2 := Kd.V_below (Kd.V_below (Kd.R_V (base' := w.heap.size) (Kd.R_bound HR2.out)) HB3.out) HB4.out
  have hV9 := Kd.V_bound HV4.out
  refine ⟨v1, B1, d1, B2, d2, B9, d9, hA5, hR5, ?_, ?_, ?_, ?_, ⟨?_, ?_⟩, ?_⟩
  · refine Kd.V_mono (Kd.V_step hV1 fun k hk hlt => ?_) fun k hk => ?_
    · exact hst k (hne k hk.2.1).1 (hne k hk.2.1).2 (by have := hk.2.2.1; omega) hlt
    · have := hk.2.2.1
      exact ⟨.inr (.inr hk.2.1), (hne k hk.2.1).1, hv1 k (by omega) (hne k hk.2.1).2⟩
  · refine Kd.V_mono (Kd.V_step hV2 fun k hk hlt => ?_) fun k hk => ?_
    · have h1 : w.heap.size ≤ k := by have := hk.2.1; omega
      exact hst k (hne k h1).1 (hne k h1).2 (by have := hk.2.2.1; omega) hlt
    · have h1 : w.heap.size ≤ k := by have := hk.2.1; omega
      have := hk.2.2.1
      exact ⟨.inr (.inr h1), (hne k h1).1, hv1 k (by omega) (hne k h1).2⟩
  · have hx : ∀ k, (((P1 k ∧ k < w.heap.size) ∨ (P2 k ∧ k < w.heap.size)) ∨ W3.heap.size ≤ k) → (P1 k ∨ P2 k ∨ w.heap.size ≤ k) ∧ (k ≠ p ∧ some k ≠ vc.ownBlock) ∧ k ≠ b := fun k hk => by
      rcases hk with (⟨h1, h2⟩ | ⟨h1, h2⟩) | h1
      · exact ⟨.inl h1, HN1.out k h1, by omega⟩
      · exact ⟨.inr (.inl h1), HN2.out k h1, by omega⟩
      · exact ⟨.inr (.inr (by omega)), hne k (by omega), by omega⟩
    refine Kd.V_mono (Kd.V_step hV9 fun k hk hlt => ?_) fun k hk => ?_
    · have h1 := hx k hk.1
      exact hst k h1.2.1.1 h1.2.1.2 h1.2.2 hlt
    · have h1 := hx k hk.1
      exact ⟨h1.1, h1.2.1.1, hv1 k hk.2 h1.2.1.2⟩
  · rcases hat with h | ⟨q, h, hle⟩
    · exact .inl h
    · exact .inr ⟨q, h, by omega⟩
  · have := hkb.1
    omega
  · intro i hi hip hio
    exact (hst i hip hio (by omega) (by omega)).trans (hB04.block i hi)
  · intro hbw
    have h1 : Below base w (w4.setCell ⟨b, 9, none⟩ (.slice B9 lh.length d9)) := (hB04.mono hbw).setCell (by show base ≤ b; omega) _
    exact h1.trans (hbel (by omega))
end Go.Proofs.YteamljekjncbfaaDoor.P
end
section
namespace Go.Proofs.YteamljekjncbfaaDoor.P
open Go.RowKit Go.Proofs.YteamljekjncbfaaDoorW.PrintWords Go.Proofs.YteamljekjncbfaaDoorW.PrintLast Go.Proofs.YteamljekjncbfaaDoorW.PrintMore
attribute [local go_sem] max2_int min2_int max_two min_two max_three min_three max_four min_four
set_option linter.unusedVariables false
set_option linter.unusedSimpArgs false
def annalsref01_right.f (a0 : Int) (a1 : Int) : Option (Int) := if 0 ≤ a1 then (if 0 ≤ (wrap64 (32 - a1)) then (some (Go.bits .or .u32 (shr .u32 a0 a1) (shl .u32 a0 (wrap64 (32 - a1))))) else (none)) else (none)
end Go.Proofs.YteamljekjncbfaaDoor.P
end
section
set_option linter.unusedVariables false
set_option linter.unusedSimpArgs false
namespace Go.Proofs.YteamljekjncbfaaDoor.P
open Go.RowKit Go.Proofs.YteamljekjncbfaaDoorW.PrintWords Go.Proofs.YteamljekjncbfaaDoorW.PrintLast Go.Proofs.YteamljekjncbfaaDoorW.PrintMore
def Sums.agg (s : Sums) : Value := .agg #[.int .u32 s.a, .int .u32 s.b, .int .u32 s.c, .int .u32 s.d, .int .u32 s.e, .int .u32 s.f, .int .u32 s.g, .int .u32 s.h]
def Sums.rround (s : Sums) (add : Int) : Sums :=
  let s0 := Go.bits .xor .u32 (Go.bits .xor .u32 ((annalsref01_right.f s.a 2).getD 0) ((annalsref01_right.f s.a 13).getD 0)) ((annalsref01_right.f s.a 22).getD 0)
  let s1 := Go.bits .xor .u32 (Go.bits .xor .u32 ((annalsref01_right.f s.e 6).getD 0) ((annalsref01_right.f s.e 11).getD 0)) ((annalsref01_right.f s.e 25).getD 0)
  let choice := Go.bits .xor .u32 (Go.bits .and .u32 s.e s.f) (Go.bits .and .u32 (Go.bits .xor .u32 IntKind.u32.max s.e) s.g)
  let most := Go.bits .xor .u32 (Go.bits .xor .u32 (Go.bits .and .u32 s.a s.b) (Go.bits .and .u32 s.a s.c)) (Go.bits .and .u32 s.b s.c)
  ⟨(s.h + s1 + choice + add + s0 + most) % 4294967296, s.a, s.b, s.c, (s.d + (s.h + s1 + choice + add)) % 4294967296, s.e, s.f, s.g⟩
end Go.Proofs.YteamljekjncbfaaDoor.P
end
section
set_option linter.unusedVariables false
set_option linter.unusedSimpArgs false
namespace Go.Proofs.YteamljekjncbfaaDoor.P
open Go.RowKit Go.Proofs.YteamljekjncbfaaDoorW.PrintWords Go.Proofs.YteamljekjncbfaaDoorW.PrintLast Go.Proofs.YteamljekjncbfaaDoorW.PrintMore
end Go.Proofs.YteamljekjncbfaaDoor.P
end
section
namespace Go.Proofs.YteamljekjncbfaaDoor.P
open Go.RowKit Go.Proofs.YteamljekjncbfaaDoorW.PrintWords Go.Proofs.YteamljekjncbfaaDoorW.PrintLast Go.Proofs.YteamljekjncbfaaDoorW.PrintMore
attribute [local go_sem] max2_int min2_int max_two min_two max_three min_three max_four min_four
set_option linter.unusedVariables false
set_option linter.unusedSimpArgs false
def annalsref01_word.f (l0 : List Int) : Option (Int) := if 0 < (l0.length : Int) then (if 1 < (l0.length : Int) then (if 2 < (l0.length : Int) then (if 3 < (l0.length : Int) then (some ((((((((((rd l0 0) % 4294967296) * 16777216) % 4294967296) + ((((rd l0 1) % 4294967296) * 65536) % 4294967296)) % 4294967296) + ((((rd l0 2) % 4294967296) * 256) % 4294967296)) % 4294967296) + ((rd l0 3) % 4294967296)) % 4294967296)) else (none)) else (none)) else (none)) else (none)
end Go.Proofs.YteamljekjncbfaaDoor.P
end
section
namespace Go.Proofs.YteamljekjncbfaaDoor.P
open Go.RowKit Go.Proofs.YteamljekjncbfaaDoorW.PrintWords Go.Proofs.YteamljekjncbfaaDoorW.PrintLast Go.Proofs.YteamljekjncbfaaDoorW.PrintMore
attribute [local go_sem] max2_int min2_int max_two min_two max_three min_three max_four min_four
set_option linter.unusedVariables false
set_option linter.unusedSimpArgs false
def annalsref01_Blocks.f (a0 : Int) : Option (Int) := if a0 < 0 then (some (((0 : Int) / 64) + (((((0 : Int) % 64) + 9) + 63) / 64))) else (some (wrap64 ((wrap64 (Int.tdiv a0 64)) + (wrap64 (Int.tdiv (wrap64 ((wrap64 ((Int.tmod a0 64) + 9)) + 63)) 64)))))
end Go.Proofs.YteamljekjncbfaaDoor.P
end
section
set_option linter.unusedVariables false
set_option linter.unusedSimpArgs false
namespace Go.Proofs.YteamljekjncbfaaDoor.P
open Go.RowKit Go.Proofs.YteamljekjncbfaaDoorW.PrintWords Go.Proofs.YteamljekjncbfaaDoorW.PrintLast Go.Proofs.YteamljekjncbfaaDoorW.PrintMore
def rblocks (n : Nat) : Nat := n / 64 + (n % 64 + 72) / 64
def rpad (bs : List Int) (k : Nat) : List Int := bs ++ [128] ++ List.replicate k 0
def rzeros (n : Nat) : Nat := 64 * rblocks n - 8 - (n + 1)
def rlen (n : Nat) : Nat → List Int
  | 0 => []
  | k + 1 => rlen n k ++ [(8 * (n : Int)) / 2 ^ (56 - 8 * (k : Int)).toNat % 256]
def rtext (bs : List Int) : List Int := rpad bs (rzeros bs.length) ++ rlen bs.length 8
def rword (ts : List Int) : Int := (annalsref01_word.f ts).getD 0
def rnext (ws : List Int) (i : Nat) : Int :=
  let a := ws.getD (i - 15) 0
  let c := ws.getD (i - 2) 0
  (ws.getD (i - 16) 0 + Go.bits .xor .u32 (Go.bits .xor .u32 ((annalsref01_right.f a 7).getD 0) ((annalsref01_right.f a 18).getD 0)) (a / 8) + ws.getD (i - 7) 0 + Go.bits .xor .u32 (Go.bits .xor .u32 ((annalsref01_right.f c 17).getD 0) ((annalsref01_right.f c 19).getD 0)) (c / 1024)) % 4294967296
def rws (ts : List Int) (at_ : Nat) : Nat → List Int
  | 0 => zeros64
  | i + 1 => (rws ts at_ i).set i (if i < 16 then rword (ts.drop (at_ + 4 * i)) else rnext (rws ts at_ i) i)
def rrounds (ts : List Int) (p : Nat) (h : Sums) : Nat → Sums
  | 0 => h
  | i + 1 => (rrounds ts p h i).rround ((shaAdded.getD i 0 + (rws ts p (i + 1)).getD i 0) % 4294967296)
def rsums (ts : List Int) : Nat → Sums
  | 0 => Sums.first
  | m + 1 => Sums.of (addW (rsums ts m).list (rrounds ts (64 * m) (rsums ts m) 64).list 8)
def rout (ws : List Int) : Nat → List Int
  | 0 => []
  | k + 1 => rout ws k ++ [ws.getD k 0 / 16777216 % 256, ws.getD k 0 / 65536 % 256, ws.getD k 0 / 256 % 256, ws.getD k 0 % 256]
def refSum (bs : List Int) : List Int := rout (rsums (rtext bs) (rblocks bs.length)).list 8
structure RefMem (w0 w : World) (g3 g4 : Nat) (hs : List Int) : Prop where
  h3 : IsWords w g3 140 hs
  h4 : IsWords w g4 144 shaAdded
  bel : Below w0.heap.size w0 w
  ge3 : w0.heap.size ≤ g3
  ne : g3 ≠ g4
theorem RefMem.below {w0 w w1 : World} {g3 g4 : Nat} {hs : List Int} (h : RefMem w0 w g3 g4 hs) (hb : Below w.heap.size w w1) : RefMem w0 w1 g3 g4 hs :=
  ⟨h.h3.below hb h.h3.lt, h.h4.below hb h.h4.lt, h.bel.trans (hb.mono h.bel.size), h.ge3, h.ne⟩
structure RefMem2 (w0 w : World) (g3 g4 g8 g9 : Nat) (hs ws : List Int) (v : Sums) (vt : Value) (T : List Int) : Prop where
  mem : RefMem w0 w g3 g4 hs
  h8 : IsWords w g8 144 ws
  h9 : IsWords w g9 140 v.list
  txt : Kd.R (Kd.int .u8) 5 w w0.heap.size (fun _ => True) vt T
  ge8 : w0.heap.size ≤ g8
  ge9 : w0.heap.size ≤ g9
  n38 : g3 ≠ g8
  n48 : g4 ≠ g8
  n39 : g3 ≠ g9
  n49 : g4 ≠ g9
  n89 : g8 ≠ g9
theorem RefMem2.below {w0 w w1 : World} {g3 g4 g8 g9 : Nat} {hs ws : List Int} {v : Sums} {vt : Value} {T : List Int} (h : RefMem2 w0 w g3 g4 g8 g9 hs ws v vt T) (hb : Below w.heap.size w w1) : RefMem2 w0 w1 g3 g4 g8 g9 hs ws v vt T :=
  ⟨h.mem.below hb, h.h8.below hb h.h8.lt, h.h9.below hb h.h9.lt, Kd.R_below h.txt hb, h.ge8, h.ge9, h.n38, h.n48, h.n39, h.n49, h.n89⟩
theorem RefMem2.drew {w0 w : World} {g3 g4 g8 g9 : Nat} {hs ws : List Int} {v : Sums} {vt : Value} {T : List Int} (h : RefMem2 w0 w g3 g4 g8 g9 hs ws v vt T) : RefMem2 w0 w.drew g3 g4 g8 g9 hs ws v vt T :=
  h.below (below_drew (Below.refl _ _))
end Go.Proofs.YteamljekjncbfaaDoor.P
end
section
set_option linter.unusedVariables false
set_option linter.unusedSimpArgs false
namespace Go.Proofs.YteamljekjncbfaaDoor.P
open Go.RowKit Go.Proofs.YteamljekjncbfaaDoorW.PrintWords Go.Proofs.YteamljekjncbfaaDoorW.PrintLast Go.Proofs.YteamljekjncbfaaDoorW.PrintMore
def annalsref01_Sum.f (l0 : List Int) : Option (List Int) := if l0.length ≤ 140737488355000 then some (refSum l0) else none
end Go.Proofs.YteamljekjncbfaaDoor.P
end
section
set_option linter.unusedVariables false
set_option linter.unusedSimpArgs false
namespace Go.Proofs.YteamljekjncbfaaDoor.P
open Go.RowKit Go.Proofs.YteamljekjncbfaaDoorW.PrintWords Go.Proofs.YteamljekjncbfaaDoorW.PrintLast Go.Proofs.YteamljekjncbfaaDoorW.PrintMore
def B (x : Int) : BitVec 32 := BitVec.ofInt 32 x
def BytesOk (bs : List Int) : Prop := ∀ x ∈ bs, 0 ≤ x ∧ x ≤ 255
theorem getD_set_ne (xs : List Int) (i j : Nat) (x : Int) (h : i ≠ j) : (xs.set i x).getD j 0 = xs.getD j 0 := by
  rw [List.getD_eq_getElem?_getD, List.getElem?_set_ne h, ← List.getD_eq_getElem?_getD]
theorem BytesOk.get {bs : List Int} (h : BytesOk bs) (j : Nat) : 0 ≤ bs.getD j 0 ∧ bs.getD j 0 ≤ 255 := by
  rw [List.getD_eq_getElem?_getD]
  by_cases hj : j < bs.length
  · rw [List.getElem?_eq_getElem hj]; exact h _ (List.getElem_mem hj)
  · rw [List.getElem?_eq_none (by omega)]; simp
theorem BytesOk.drop {bs : List Int} (h : BytesOk bs) (j : Nat) : BytesOk (bs.drop j) := fun x hx => h x (List.mem_of_mem_drop hx)
end Go.Proofs.YteamljekjncbfaaDoor.P
end
section
set_option linter.unusedVariables false
set_option linter.unusedSimpArgs false
namespace Go.Proofs.YteamljekjncbfaaDoor.P
open Go.RowKit Go.Proofs.YteamljekjncbfaaDoorW.PrintWords Go.Proofs.YteamljekjncbfaaDoorW.PrintLast Go.Proofs.YteamljekjncbfaaDoorW.PrintMore
def bitBytes (n : Nat) : Nat := (n - 1) / 8 + 1
def cutByte (x : Int) (over : Int) : Int := Go.bits .and .u8 x (255 * 2 ^ (8 - over).toNat % 256)
def firstBits (l : List Int) (n : Nat) : List Int :=
  if n % 8 = 0 then l.take (bitBytes n) else (l.take (bitBytes n)).set (bitBytes n - 1) (cutByte ((l.take (bitBytes n)).getD (bitBytes n - 1) 0) ((n % 8 : Nat) : Int))
def firstB (l : List Int) (a : Int) : List Int := if 8 * (l.length : Int) ≤ a then l else if a < 1 then [] else firstBits l a.toNat
def bits_First.f (l0 : List Int) (a1 : Int) : Option (List Int) := if l0.length < 140737488355328 then some (firstB l0 a1) else none
end Go.Proofs.YteamljekjncbfaaDoor.P
end
section
namespace Go.Proofs.YteamljekjncbfaaDoor.P
open Go.RowKit Go.Proofs.YteamljekjncbfaaDoorW.PrintWords Go.Proofs.YteamljekjncbfaaDoorW.PrintLast Go.Proofs.YteamljekjncbfaaDoorW.PrintMore
attribute [local go_sem] max2_int min2_int max_two min_two max_three min_three max_four min_four
set_option linter.unusedVariables false
set_option linter.unusedSimpArgs false
def annalsref01_Cut.f (a0 : Int) (l1 : List Int) : Option (List Int) := (annalsref01_Sum.f l1).bind fun t153 => (if 0 ≤ (mx 0 (mn a0 32)) then (if (mx 0 (mn a0 32)) ≤ (t153.length : Int) then (some (t153.take ((mx 0 (mn a0 32)) : Int).toNat)) else (none)) else (none))
end Go.Proofs.YteamljekjncbfaaDoor.P
end
section
namespace Go.Proofs.YteamljekjncbfaaDoor.P
open Go.RowKit Go.Proofs.YteamljekjncbfaaDoorW.PrintWords Go.Proofs.YteamljekjncbfaaDoorW.PrintLast Go.Proofs.YteamljekjncbfaaDoorW.PrintMore
attribute [local go_sem] max2_int min2_int max_two min_two max_three min_three max_four min_four
set_option linter.unusedVariables false
set_option linter.unusedSimpArgs false
mutual
def annalsref02_Text.j0 : Nat → Int → List (List Int) → Bool → Option (List Int × Int)
  | 0, _, _, _ => none
  | k + 1, x0, x1, x14 => if x14 = true then (some (([] : List Int), 1)) else (annalsref02_Text.l0 k (([(x0) % 256] : List Int)) x1 (x1.length : Int) 0)
def annalsref02_Text.l0 : Nat → List Int → List (List Int) → Int → Int → Option (List Int × Int)
  | 0, _, _, _, _ => none
  | k + 1, x6, x18, x19, x20 => if x20 < x19 then (if 0 ≤ x20 then (if x20 < (x18.length : Int) then (if ((rd_L1 x18 x20).length : Int) > 65535 then (some (([] : List Int), 4)) else ((some (([(((rd_L1 x18 x20).length : Int) / 256) % 256, (((rd_L1 x18 x20).length : Int)) % 256] : List Int) : List Int)).bind fun y140 => (if x6.length + y140.length < 140737488355328 then ((some (x6 ++ y140 : List Int)).bind fun y143 => (if y143.length + (rd_L1 x18 x20).length < 140737488355328 then (annalsref02_Text.l0 k (y143 ++ (rd_L1 x18 x20)) x18 x19 (wrap64 (x20 + 1))) else (none))) else (none)))) else (none)) else (none)) else (some (x6, 0))
end
def annalsref02_Text.f (k : Nat) (a0 : Int) (l1 : List (List Int)) : Option (List Int × Int) := if a0 < 0 then (annalsref02_Text.j0 k a0 l1 true) else (annalsref02_Text.j0 k a0 l1 (decide (a0 > 255)))
theorem annalsref02_Text.mono_l : ∀ k, (∀ y0 y1 y2, LeO (annalsref02_Text.j0 k y0 y1 y2) (annalsref02_Text.j0 (k + 1) y0 y1 y2)) ∧ (∀ y0 y1 y2 y3, LeO (annalsref02_Text.l0 k y0 y1 y2 y3) (annalsref02_Text.l0 (k + 1) y0 y1 y2 y3))
  | 0 => ⟨fun _ _ _ r h => by simp [annalsref02_Text.j0] at h, fun _ _ _ _ r h => by simp [annalsref02_Text.l0] at h⟩
  | k + 1 => by
    obtain ⟨ih0, ih1⟩ := annalsref02_Text.mono_l k
    refine ⟨?_, ?_⟩
    · intro y0 y1 y2
      unfold annalsref02_Text.j0
      repeat' first
      | (with_reducible exact ih0 _ _ _)
      | (with_reducible exact ih1 _ _ _ _)
      | (with_reducible exact LeO.refl _)
      | (with_reducible exact LeO.none _)
      | (with_reducible refine LeO.ite ?_ ?_)
      | (with_reducible refine LeO.bind ?_ (fun _ => ?_))
      | exact ih0 _ _ _
      | exact ih1 _ _ _ _
      | exact LeO.none _
      | refine LeO.ite ?_ ?_
      | refine LeO.bind ?_ (fun _ => ?_)
    · intro y0 y1 y2 y3
      unfold annalsref02_Text.l0
      repeat' first
      | (with_reducible exact ih0 _ _ _)
      | (with_reducible exact ih1 _ _ _ _)
      | (with_reducible exact LeO.refl _)
      | (with_reducible exact LeO.none _)
      | (with_reducible refine LeO.ite ?_ ?_)
      | (with_reducible refine LeO.bind ?_ (fun _ => ?_))
      | exact ih0 _ _ _
      | exact ih1 _ _ _ _
      | exact LeO.none _
      | refine LeO.ite ?_ ?_
      | refine LeO.bind ?_ (fun _ => ?_)
theorem annalsref02_Text.mono : ∀ a0 a1 k, LeO (annalsref02_Text.f k a0 a1) (annalsref02_Text.f (k + 1) a0 a1) := by
  intro a0 a1 k
  obtain ⟨ih0, ih1⟩ := annalsref02_Text.mono_l k
  unfold annalsref02_Text.f
  repeat' first
      | (with_reducible exact ih0 _ _ _)
      | (with_reducible exact ih1 _ _ _ _)
      | (with_reducible exact LeO.refl _)
      | (with_reducible exact LeO.none _)
      | (with_reducible refine LeO.ite ?_ ?_)
      | (with_reducible refine LeO.bind ?_ (fun _ => ?_))
      | exact ih0 _ _ _
      | exact ih1 _ _ _ _
      | exact LeO.none _
      | refine LeO.ite ?_ ?_
      | refine LeO.bind ?_ (fun _ => ?_)
end Go.Proofs.YteamljekjncbfaaDoor.P
end
section
namespace Go.Proofs.YteamljekjncbfaaDoor.P
open Go.RowKit Go.Proofs.YteamljekjncbfaaDoorW.PrintWords Go.Proofs.YteamljekjncbfaaDoorW.PrintLast Go.Proofs.YteamljekjncbfaaDoorW.PrintMore
attribute [local go_sem] max2_int min2_int max_two min_two max_three min_three max_four min_four
set_option linter.unusedVariables false
set_option linter.unusedSimpArgs false
def annalsref02_Hash.f (k : Nat) (a0 : Int) (a1 : Int) (l2 : List (List Int)) : Option (List Int) := (annalsref02_Text.f k a1 l2).bind fun bt159 => (if bt159.2 = 0 then ((annalsref01_Cut.f a0 bt159.1).bind fun t163 => (some t163)) else (some ([] : List Int)))
theorem annalsref02_Hash.mono : ∀ a0 a1 a2 k, LeO (annalsref02_Hash.f k a0 a1 a2) (annalsref02_Hash.f (k + 1) a0 a1 a2) := by
  intro a0 a1 a2 k
  unfold annalsref02_Hash.f
  repeat' first
      | (with_reducible exact annalsref02_Text.mono _ _ _)
      | (with_reducible exact LeO.refl _)
      | (with_reducible exact LeO.none _)
      | (with_reducible refine LeO.ite ?_ ?_)
      | (with_reducible refine LeO.bind ?_ (fun _ => ?_))
      | exact annalsref02_Text.mono _ _ _
      | exact LeO.none _
      | refine LeO.ite ?_ ?_
      | refine LeO.bind ?_ (fun _ => ?_)
end Go.Proofs.YteamljekjncbfaaDoor.P
end
section
namespace Go.Proofs.YteamljekjncbfaaDoor.P
open Go.RowKit Go.Proofs.YteamljekjncbfaaDoorW.PrintWords Go.Proofs.YteamljekjncbfaaDoorW.PrintLast Go.Proofs.YteamljekjncbfaaDoorW.PrintMore
attribute [local go_sem] max2_int min2_int max_two min_two max_three min_three max_four min_four
set_option linter.unusedVariables false
set_option linter.unusedSimpArgs false
def annalsref02_Number.l0 : Nat → Int → List Int → Int → Option (List Int)
  | 0, _, _, _ => none
  | k + 1, x0, x3, x4 => if x4 ≥ 0 then (if 0 ≤ x4 then (if x3.length < 140737488355328 then (annalsref02_Number.l0 k x0 (x3 ++ [(shr .u64 (IntKind.u64.wrap (x0)) x4) % 256]) (wrap64 (x4 - 8))) else (none)) else (none)) else (some x3)
def annalsref02_Number.f (k : Nat) (a0 : Int) : Option (List Int) := annalsref02_Number.l0 k a0 ([] : List Int) 56
theorem annalsref02_Number.mono_l : ∀ k, (∀ y0 y1 y2, LeO (annalsref02_Number.l0 k y0 y1 y2) (annalsref02_Number.l0 (k + 1) y0 y1 y2))
  | 0 => fun _ _ _ r h => by simp [annalsref02_Number.l0] at h
  | k + 1 => by
    have ih0 := annalsref02_Number.mono_l k
    · intro y0 y1 y2
      unfold annalsref02_Number.l0
      repeat' first
      | (with_reducible exact ih0 _ _ _)
      | (with_reducible exact LeO.refl _)
      | (with_reducible exact LeO.none _)
      | (with_reducible refine LeO.ite ?_ ?_)
      | (with_reducible refine LeO.bind ?_ (fun _ => ?_))
      | exact ih0 _ _ _
      | exact LeO.none _
      | refine LeO.ite ?_ ?_
      | refine LeO.bind ?_ (fun _ => ?_)
theorem annalsref02_Number.mono : ∀ a0 k, LeO (annalsref02_Number.f k a0) (annalsref02_Number.f (k + 1) a0) := by
  intro a0 k
  have ih0 := annalsref02_Number.mono_l k
  unfold annalsref02_Number.f
  repeat' first
      | (with_reducible exact ih0 _ _ _)
      | (with_reducible exact LeO.refl _)
      | (with_reducible exact LeO.none _)
      | (with_reducible refine LeO.ite ?_ ?_)
      | (with_reducible refine LeO.bind ?_ (fun _ => ?_))
      | exact ih0 _ _ _
      | exact LeO.none _
      | refine LeO.ite ?_ ?_
      | refine LeO.bind ?_ (fun _ => ?_)
end Go.Proofs.YteamljekjncbfaaDoor.P
end
section
namespace Go.Proofs.YteamljekjncbfaaDoor.P
open Go.RowKit Go.Proofs.YteamljekjncbfaaDoorW.PrintWords Go.Proofs.YteamljekjncbfaaDoorW.PrintLast Go.Proofs.YteamljekjncbfaaDoorW.PrintMore
attribute [local go_sem] max2_int min2_int max_two min_two max_three min_three max_four min_four
set_option linter.unusedVariables false
set_option linter.unusedSimpArgs false
mutual
def annalsref03_First.l0 : Nat → List Int → Int → List Int → Int → Option (List Int)
  | 0, _, _, _, _ => none
  | k + 1, x0, x1, x5, x6 => if x6 < x1 then (annalsref03_First.j1 k x0 x1 x5 x6 (decide ((wrap64 (Int.tdiv x6 8)) < (x0.length : Int)))) else (annalsref03_First.j1 k x0 x1 x5 x6 false)
def annalsref03_First.j1 : Nat → List Int → Int → List Int → Int → Bool → Option (List Int)
  | 0, _, _, _, _, _ => none
  | k + 1, x0, x1, x5, x6, x17 => if x17 = true then (if 0 ≤ (wrap64 (Int.tdiv x6 8)) then (if (wrap64 (Int.tdiv x6 8)) < (x0.length : Int) then (if (wrap64 (x1 - x6)) < 8 then (if 0 ≤ (wrap64 (8 - (wrap64 (x1 - x6)))) then (if x5.length < 140737488355328 then (annalsref03_First.l0 k x0 x1 (x5 ++ [shl .u8 (shr .u8 (rd x0 (wrap64 (Int.tdiv x6 8))) (wrap64 (8 - (wrap64 (x1 - x6))))) (wrap64 (8 - (wrap64 (x1 - x6))))]) (wrap64 (x6 + 8))) else (none)) else (none)) else (if x5.length < 140737488355328 then (annalsref03_First.l0 k x0 x1 (x5 ++ [rd x0 (wrap64 (Int.tdiv x6 8))]) (wrap64 (x6 + 8))) else (none))) else (none)) else (none)) else (some x5)
end
def annalsref03_First.f (k : Nat) (l0 : List Int) (a1 : Int) : Option (List Int) := annalsref03_First.l0 k l0 a1 ([] : List Int) 0
theorem annalsref03_First.mono_l : ∀ k, (∀ y0 y1 y2 y3, LeO (annalsref03_First.l0 k y0 y1 y2 y3) (annalsref03_First.l0 (k + 1) y0 y1 y2 y3)) ∧ (∀ y0 y1 y2 y3 y4, LeO (annalsref03_First.j1 k y0 y1 y2 y3 y4) (annalsref03_First.j1 (k + 1) y0 y1 y2 y3 y4))
  | 0 => ⟨fun _ _ _ _ r h => by simp [annalsref03_First.l0] at h, fun _ _ _ _ _ r h => by simp [annalsref03_First.j1] at h⟩
  | k + 1 => by
    obtain ⟨ih0, ih1⟩ := annalsref03_First.mono_l k
    refine ⟨?_, ?_⟩
    · intro y0 y1 y2 y3
      unfold annalsref03_First.l0
      repeat' first
      | (with_reducible exact ih0 _ _ _ _)
      | (with_reducible exact ih1 _ _ _ _ _)
      | (with_reducible exact LeO.refl _)
      | (with_reducible exact LeO.none _)
      | (with_reducible refine LeO.ite ?_ ?_)
      | (with_reducible refine LeO.bind ?_ (fun _ => ?_))
      | exact ih0 _ _ _ _
      | exact ih1 _ _ _ _ _
      | exact LeO.none _
      | refine LeO.ite ?_ ?_
      | refine LeO.bind ?_ (fun _ => ?_)
    · intro y0 y1 y2 y3 y4
      unfold annalsref03_First.j1
      repeat' first
      | (with_reducible exact ih0 _ _ _ _)
      | (with_reducible exact ih1 _ _ _ _ _)
      | (with_reducible exact LeO.refl _)
      | (with_reducible exact LeO.none _)
      | (with_reducible refine LeO.ite ?_ ?_)
      | (with_reducible refine LeO.bind ?_ (fun _ => ?_))
      | exact ih0 _ _ _ _
      | exact ih1 _ _ _ _ _
      | exact LeO.none _
      | refine LeO.ite ?_ ?_
      | refine LeO.bind ?_ (fun _ => ?_)
theorem annalsref03_First.mono : ∀ a0 a1 k, LeO (annalsref03_First.f k a0 a1) (annalsref03_First.f (k + 1) a0 a1) := by
  intro a0 a1 k
  obtain ⟨ih0, ih1⟩ := annalsref03_First.mono_l k
  unfold annalsref03_First.f
  repeat' first
      | (with_reducible exact ih0 _ _ _ _)
      | (with_reducible exact ih1 _ _ _ _ _)
      | (with_reducible exact LeO.refl _)
      | (with_reducible exact LeO.none _)
      | (with_reducible refine LeO.ite ?_ ?_)
      | (with_reducible refine LeO.bind ?_ (fun _ => ?_))
      | exact ih0 _ _ _ _
      | exact ih1 _ _ _ _ _
      | exact LeO.none _
      | refine LeO.ite ?_ ?_
      | refine LeO.bind ?_ (fun _ => ?_)
end Go.Proofs.YteamljekjncbfaaDoor.P
end
