/- Lemmas of this claim, part 6. -/
import Derived.Test.YtdeneoknjeegbaaDoorPartArenaSwept5
import Derived.Test.YtdeneoknjeegbaaDoorPartArenaSwept2
import Derived.Test.YtdeneoknjeegbaaDoorPartArenaSwept3
import Derived.Outline
import Derived.Laws.CopyOwn
section
set_option linter.unusedVariables false
set_option linter.unusedSimpArgs false
namespace Go.Proofs.YtdeneoknjeegbaaDoor.P
open Go.RowKit Go.Proofs.YtdeneoknjeegbaaDoorW.PrintWords Go.Proofs.YtdeneoknjeegbaaDoorW.PrintLast Go.Proofs.YtdeneoknjeegbaaDoorW.PrintMore
theorem IsBytes.V {w : World} {g t e n base : Nat} {xs : List Int} (h : IsBytes w g t xs) (hb : base ≤ g) (hn : xs.length = n) (hm : n ≤ 9223372036854775807) : Kd.V (Kd.int .u8) e w base (fun k_ => base ≤ k_) (.slice (some ⟨g, 0, none⟩) n n) xs := by
  subst hn
  refine Kd.V_mk (Nat.le_refl _) ?_
  intro W' hW
  have h2 : IsBytes W' g t xs := (hW g hb h.lt).trans h
  have := h2.C (o := 0) (n := xs.length) (by omega) hm
  simpa using this
def numRun : Nat → Int → List Int → List Int
  | 0, _, ys => ys
  | i + 1, x, ys => numRun i (x / 256) (ys.set i (x % 256))
def numBytes (n : Int) : List Int := numRun 8 n (List.replicate 8 0)
def texts_Number.f (a0 : Int) : Option (List Int) := some (numBytes a0)
set_option maxHeartbeats 1000000 in
set_option maxRecDepth 100000 in
theorem texts_Number.calls (a0 : Int) (r : List Int) (w : World) (h : texts_Number.f a0 = some r) :
    Calls Tryd.prog 94 #[.int .i64 a0] w fun e w' => ∃ v0_ : Value, e = .returned (v0_) ∧ Kd.V (Kd.int .u8) 5 w' w.heap.size (fun k_ => w.heap.size ≤ k_) v0_ r ∧ Below w.heap.size w w' := by
  obtain rfl := Option.some.inj h
  clear h
  go_enter Tryd.func94, Tryd.ntmps94
  go_wp2_with fail
  obtain ⟨g, hg⟩ : ∃ g, g = w.heap.size := ⟨_, rfl⟩
  rw [← hg]
  have HG := Aside0.mk hg
  have hge : w.heap.size ≤ g := by omega
  clear hg
  go_loopw [0, 4] (fun v0 v4 wr => ∃ (i : Nat) (x : Int) (ys : List Int), i ≤ 8 ∧ v0 = .int .i64 x ∧ v4 = .int .i64 (i : Int) ∧ Aside0 (ys.length = 8) ∧ Aside0 (numRun i x ys = numBytes a0) ∧ Aside0 (IsBytes wr g 142 ys) ∧ Aside0 (Below w.heap.size w wr)) (fun _ v4 _ => (intOf v4).toNat)
  case atStart => exact ⟨8, a0, List.replicate 8 0, by omega, rfl, rfl, ⟨by rfl⟩, ⟨rfl⟩, ⟨by rw [HG.out]; exact heap_alloc_new w _⟩, ⟨below_alloc (Below.refl _ _) _⟩⟩
  case round =>
    obtain ⟨i, x, ys, hi, rfl, rfl, HL, HT, HI, HB⟩ := hrel
    by_cases hi0 : 0 < i
    · have hd : decide ((0 : Int) < (i : Int)) = true := by simp; omega
      obtain ⟨i, rfl⟩ : ∃ j, i = j + 1 := ⟨i - 1, by omega⟩
      have e1 : ((i + 1 : Nat) : Int) - 1 = (i : Int) := by omega
      have e2 : IntKind.i64.wrap (i : Int) = (i : Int) := by rw [IntKind.wrap_i64]; omega
      have hi8 : (i : Int) < 8 := by omega
      have hc := HI.out.cell i (by have := HL.out; omega)
      have hf := HI.out.frozen i
      go_wp2_with fail
      refine ⟨⟨i, x / 256, ys.set i (x % 256), by omega, rfl, rfl, ⟨by rw [List.length_set]; exact HL.out⟩, ⟨HT.out⟩, ⟨HI.out.set i _⟩, ⟨HB.out.setCell (by show w.heap.size ≤ g; exact hge) _⟩⟩, by simp only [intOf]; omega⟩
    · obtain rfl : i = 0 := by omega
      have hd : decide ((0 : Int) < ((0 : Nat) : Int)) = false := by decide
      go_wp2_with fail
      go_ret
      exact ⟨_, rfl, by rw [← HT.out]; exact HI.out.V hge HL.out (by decide), HB.out⟩
end Go.Proofs.YtdeneoknjeegbaaDoor.P
end
section
namespace Go.Proofs.YtdeneoknjeegbaaDoor.P
open Go.RowKit Go.Proofs.YtdeneoknjeegbaaDoorW.PrintWords Go.Proofs.YtdeneoknjeegbaaDoorW.PrintLast Go.Proofs.YtdeneoknjeegbaaDoorW.PrintMore
attribute [local go_sem] max2_int min2_int max_two min_two max_three min_three max_four min_four
set_option linter.unusedVariables false
set_option linter.unusedSimpArgs false
def arena_LeafHash.f (k : Nat) (a0 : Int) (l1 : List Int) (l2 : List Int) (a3 : Int) : Option (List Int) := (texts_Number.f a3).bind fun t127 => ((texts_Hash.f k a0 1 (([l1, l2, t127] : List (List Int)))).bind fun t133 => (some t133))
set_option maxHeartbeats 8000000 in
set_option maxRecDepth 100000 in
theorem arena_LeafHash.calls (k : Nat) (a0 : Int) (P1_ : Nat → Prop) (A1 : Option Addr) (c1 : Nat) (l1 : List Int) (P2_ : Nat → Prop) (A2 : Option Addr) (c2 : Nat) (l2 : List Int) (a3 : Int) (r : List Int) (w : World) (hs1 : Kd.V (Kd.int .u8) 5 w w.heap.size (fun k_ => P1_ k_) (.slice A1 l1.length c1) l1) (hs2 : Kd.V (Kd.int .u8) 5 w w.heap.size (fun k_ => P2_ k_) (.slice A2 l2.length c2) l2) (hGS : GlobS w) (h : arena_LeafHash.f k a0 l1 l2 a3 = some r) :
    Calls Tryd.prog 73 #[.int .i64 a0, .slice A1 l1.length c1, .slice A2 l2.length c2, .int .i64 a3] w fun e w' => ∃ v0_ : Value, e = .returned (v0_) ∧ Kd.V (Kd.int .u8) 5 w' w.heap.size (fun k_ => ((P1_ k_ ∨ P2_ k_) ∨ w.heap.size ≤ k_)) v0_ r ∧ Below w.heap.size w w' := by
  have HGS := Aside0.mk hGS
  clear hGS
  have HO1 := Aside0.mk (show Kd.V (Kd.int .u8) 5 w w.heap.size (fun k_ => ((P1_ k_ ∨ P2_ k_) ∨ w.heap.size ≤ k_)) (.slice A1 l1.length c1) l1 from Kd.V_mono hs1 (fun k_ hk => .inl (.inl hk)))
  have HO2 := Aside0.mk (show Kd.V (Kd.int .u8) 5 w w.heap.size (fun k_ => ((P1_ k_ ∨ P2_ k_) ∨ w.heap.size ≤ k_)) (.slice A2 l2.length c2) l2 from Kd.V_mono hs2 (fun k_ hk => .inl (.inr hk)))
  have HB := Aside0.mk (Below.refl w.heap.size w)
  have H : ((texts_Number.f a3).bind fun t127 => ((texts_Hash.f k a0 1 (([l1, l2, t127] : List (List Int)))).bind fun t133 => (some t133))) = some r := h
  clear h
  replace H := Option.bind_eq_some_iff.mp H
  obtain ⟨t127, A50, H⟩ := H
  replace H : ((texts_Hash.f k a0 1 (([l1, l2, t127] : List (List Int)))).bind fun t133 => (some t133)) = some r := H
  have A5 := Aside0.mk A50
  clear A50
  obtain ⟨y130, hy130⟩ : ∃ y_ : List (List Int), y_ = (([l1, l2, t127] : List (List Int))) := ⟨_, rfl⟩
  replace H : ((texts_Hash.f k a0 1 y130).bind fun t133 => (some t133)) = some r := by first | (rw [hy130]; with_reducible exact H) | (have H2_ := (Option.bind_some _ _).symm.trans H; rw [hy130]; with_reducible exact H2_) | (have H2_ := (Option.bind_some _ _).symm.trans H; with_reducible exact H2_) | with_reducible exact H | (rw [hy130]; exact H) | exact H
  have Ny130 := Aside0.mk hy130
  clear hy130
  replace H := Option.bind_eq_some_iff.mp H
  obtain ⟨t133, A60, H⟩ := H
  replace H : (some t133) = some r := H
  have A6 := Aside0.mk A60
  clear A60
  obtain rfl := Option.some.inj H
  go_enter Tryd.func73, Tryd.ntmps73
  go_wp2_with (first | ((with_reducible refine gate_callee (f := 94) rfl ?_); refine goesL_ (some 13) rfl rfl Tryd.func94 (by kernel_rfl) rfl #[.int .i64 a3] rfl (by (try simp only [List.map_toArray, List.map_cons, List.map_nil]); first | done | rfl | (simp only [List.length_drop, List.length_take]; rfl)) ?_; (with_reducible refine (texts_Number.calls a3 t127 _ A5.out).mono ?_); rintro e w7 ⟨v128, rfl, ho0, hb⟩; refine ⟨_, rfl, ?_⟩; have n0_ := Aside0.mk (Kd.V_below (by (with_reducible repeat (first | apply Kd.V_alloc | apply Kd.V_drewN | apply Kd.V_drew)); exact HO1.out) hb); have n1_ := Aside0.mk (Kd.V_below (by (with_reducible repeat (first | apply Kd.V_alloc | apply Kd.V_drewN | apply Kd.V_drew)); exact HO2.out) hb); have n2_ := Aside0.mk (Kd.V_lower (Kd.V_mono (ok' := fun k_ => ((P1_ k_ ∨ P2_ k_) ∨ w.heap.size ≤ k_)) ho0 (fun k_ hk_ => (.inr (Nat.le_trans (below_size (by repeat (first | (with_reducible first | exact HB.out | apply below_alloc | apply pw_below_drewN | apply below_drew1) | exact HB.out))) hk_)))) (below_size (by repeat (first | (with_reducible first | exact HB.out | apply below_alloc | apply pw_below_drewN | apply below_drew1) | exact HB.out)))); have n3_ := Aside0.mk (below_step (by repeat (first | (with_reducible first | exact HB.out | apply below_alloc | apply pw_below_drewN | apply below_drew1) | exact HB.out)) hb); clear HO1; clear HO2; clear HB; have HO1 := n0_; have HO2 := n1_; have HO129 := n2_; have HB := n3_; clear n0_ n1_ n2_ n3_; (try clear hb); (try clear hb2); (try clear hk); (try clear hi); (try clear ho0); obtain ⟨Ao8, co8, eo8⟩ := Kd.V_slice HO129.out; subst eo8) | ((with_reducible refine gate_dst (N := 14) rfl ?_); refine Kd.N_lit (Kd.slice 5 (Kd.int .u8)) _ 31 ?hg (N' := 14) ?hd (xs := ([l1, l2, t127] : List (List Int))) (inner := [.slice A1 l1.length c1, .slice A2 l2.length c2, .slice Ao8 t127.length co8]) (ok := (fun k_ => ((P1_ k_ ∨ P2_ k_) ∨ w.heap.size ≤ k_))) (okp := (fun k_ => ((P1_ k_ ∨ P2_ k_) ∨ w.heap.size ≤ k_))) ?hr ?hp (fun _ hk => hk) ((show ∀ k_, w7.heap.size ≤ k_ → (fun k_ => ((P1_ k_ ∨ P2_ k_) ∨ w.heap.size ≤ k_)) k_ from fun k_ hk => (.inr (Nat.le_trans (below_size (by repeat (first | (with_reducible first | exact HB.out | apply below_alloc | apply pw_below_drewN | apply below_drew1) | exact HB.out))) hk))) _ (Nat.le_refl _)) (Below.refl _ _) (Nat.le_refl _) (by simp) ?_; (case hd => rfl); (case hg => rfl); (case hr => first | (go_simp; done) | (go_simp; rfl)); (case hp => exact (Reps.one (show Kd.FK (Kd.slice 5 (Kd.int .u8)) _ _ l1 [.slice A1 l1.length c1] from (Kd.FK_slice_mk (Kd.V_reads' (Kd.V_mono (ok' := (fun k_ => ((P1_ k_ ∨ P2_ k_) ∨ w.heap.size ≤ k_))) (HO1.out) (fun k_ hk => hk))).2.1 (Kd.V_F (Kd.V_mono (ok' := (fun k_ => ((P1_ k_ ∨ P2_ k_) ∨ w.heap.size ≤ k_))) (HO1.out) (fun k_ hk => hk))))) (Reps.one (show Kd.FK (Kd.slice 5 (Kd.int .u8)) _ _ l2 [.slice A2 l2.length c2] from (Kd.FK_slice_mk (Kd.V_reads' (Kd.V_mono (ok' := (fun k_ => ((P1_ k_ ∨ P2_ k_) ∨ w.heap.size ≤ k_))) (HO2.out) (fun k_ hk => hk))).2.1 (Kd.V_F (Kd.V_mono (ok' := (fun k_ => ((P1_ k_ ∨ P2_ k_) ∨ w.heap.size ≤ k_))) (HO2.out) (fun k_ hk => hk))))) (Reps.one (show Kd.FK (Kd.slice 5 (Kd.int .u8)) _ _ t127 [.slice Ao8 t127.length co8] from (Kd.FK_slice_mk (Kd.V_reads' (Kd.V_mono (ok' := (fun k_ => ((P1_ k_ ∨ P2_ k_) ∨ w.heap.size ≤ k_))) (HO129.out) (fun k_ hk => hk))).2.1 (Kd.V_F (Kd.V_mono (ok' := (fun k_ => ((P1_ k_ ∨ P2_ k_) ∨ w.heap.size ≤ k_))) (HO129.out) (fun k_ hk => hk))))) (Reps.none _ _))))); intro v131 w9 ho10 hb hg_ hnew_; clear hg_ hnew_; (first | rw [← Ny130.out] at ho10 | (simp only [Int.reduceToNat] at ho10; rw [← Ny130.out] at ho10)); have n0_ := Aside0.mk (Kd.V_elder' (by (with_reducible repeat (first | apply Kd.V_alloc | apply Kd.V_drewN | apply Kd.V_drew)); exact HO1.out) (Kd.N_base ho10) hb); have n1_ := Aside0.mk (Kd.V_elder' (by (with_reducible repeat (first | apply Kd.V_alloc | apply Kd.V_drewN | apply Kd.V_drew)); exact HO2.out) (Kd.N_base ho10) hb); have n2_ := Aside0.mk (Kd.V_elder' (by (with_reducible repeat (first | apply Kd.V_alloc | apply Kd.V_drewN | apply Kd.V_drew)); exact HO129.out) (Kd.N_base ho10) hb); have n3_ := Aside0.mk (Kd.N_lower ho10 (below_size (by repeat (first | (with_reducible first | exact HB.out | apply below_alloc | apply pw_below_drewN | apply below_drew1) | exact HB.out)))); have n4_ := Aside0.mk (below_step (by repeat (first | (with_reducible first | exact HB.out | apply below_alloc | apply pw_below_drewN | apply below_drew1) | exact HB.out)) hb); clear HO1; clear HO2; clear HO129; clear HB; have HO1 := n0_; have HO2 := n1_; have HO129 := n2_; have HO132 := n3_; have HB := n4_; clear n0_ n1_ n2_ n3_ n4_; clear hb ho10; obtain ⟨Ao11, co11, eo11⟩ := Kd.N_slice HO132.out; subst eo11) | ((with_reducible refine gate_callee (f := 70) rfl ?_); refine goesL_ (some 15) rfl rfl Tryd.func70 (by kernel_rfl) rfl #[.int .i64 a0, .int .i64 1, .slice Ao11 y130.length co11] rfl (by (try simp only [List.map_toArray, List.map_cons, List.map_nil]); first | done | rfl | (simp only [List.length_drop, List.length_take]; rfl)) ?_; (with_reducible refine (texts_Hash.calls k a0 1 _ _ y130 t133 _ ?side1 ?side2 (by first | (with_reducible exact HGS.out) | exact GlobS.of HGS.out (by repeat (first | (with_reducible first | exact HB.out | apply below_alloc | apply pw_below_drewN | apply below_drew1) | exact HB.out)) | exact GlobS.of HGS.out (by repeat (first | exact Below.refl _ _ | apply below_alloc | apply pw_below_drewN | apply below_drew1))) A6.out).mono ?_); (case side1 => repeat (first | exact (Kd.N_reads' HO132.out).2.2 | (with_reducible refine Kd.C_alloc ?_ _) | (with_reducible refine Kd.C_drewN ?_ _) | (with_reducible refine Kd.C_drew ?_))); (case side2 => exact (Kd.N_reads' HO132.out).2.1); rintro e w12 ⟨v134, rfl, ho0, hb⟩; refine ⟨_, rfl, ?_⟩; have n0_ := Aside0.mk (Kd.V_below (by (with_reducible repeat (first | apply Kd.V_alloc | apply Kd.V_drewN | apply Kd.V_drew)); exact HO1.out) hb); have n1_ := Aside0.mk (Kd.V_below (by (with_reducible repeat (first | apply Kd.V_alloc | apply Kd.V_drewN | apply Kd.V_drew)); exact HO2.out) hb); have n2_ := Aside0.mk (Kd.V_below (by (with_reducible repeat (first | apply Kd.V_alloc | apply Kd.V_drewN | apply Kd.V_drew)); exact HO129.out) hb); have n3_ := Aside0.mk (Kd.N_below (by (with_reducible repeat (first | apply Kd.N_alloc | apply Kd.N_drewN | apply Kd.N_drew)); exact HO132.out) hb); have n4_ := Aside0.mk (Kd.V_lower (Kd.V_mono (ok' := fun k_ => ((P1_ k_ ∨ P2_ k_) ∨ w.heap.size ≤ k_) ∧ some k_ ≠ (.slice Ao11 y130.length co11 : Value).ownBlock) ho0 (fun k_ hk_ => ⟨(.inr (Nat.le_trans (below_size (by repeat (first | (with_reducible first | exact HB.out | apply below_alloc | apply pw_below_drewN | apply below_drew1) | exact HB.out))) hk_)), (Kd.fresh' (Kd.N_lt (by (with_reducible repeat (first | apply Kd.N_alloc | apply Kd.N_drewN | apply Kd.N_drew)); exact HO132.out)) k_ hk_)⟩)) (below_size (by repeat (first | (with_reducible first | exact HB.out | apply below_alloc | apply pw_below_drewN | apply below_drew1) | exact HB.out)))); have n5_ := Aside0.mk (below_step (by repeat (first | (with_reducible first | exact HB.out | apply below_alloc | apply pw_below_drewN | apply below_drew1) | exact HB.out)) hb); clear HO1; clear HO2; clear HO129; clear HO132; clear HB; have HO1 := n0_; have HO2 := n1_; have HO129 := n2_; have HO132 := n3_; have HO135 := n4_; have HB := n5_; clear n0_ n1_ n2_ n3_ n4_ n5_; (try clear hb); (try clear hb2); (try clear hk); (try clear hi); (try clear ho0)))
  go_ret
  exact ⟨_, by first | rfl | (simp [errW_none, errW_some] <;> rfl) | (simp [*, errW_none, errW_some] <;> rfl), by (with_reducible repeat (first | apply Kd.V_alloc | apply Kd.V_drewN | apply Kd.V_drew)); exact Kd.V_mono HO135.out (fun _ hk => hk.1), by repeat (first | (with_reducible first | exact HB.out | apply below_alloc | apply pw_below_drewN | apply below_drew1) | exact HB.out)⟩
end Go.Proofs.YtdeneoknjeegbaaDoor.P
end
section
set_option linter.unusedVariables false
set_option linter.unusedSimpArgs false
namespace Go.Proofs.YtdeneoknjeegbaaDoor.P
open Go.RowKit Go.Proofs.YtdeneoknjeegbaaDoorW.PrintWords Go.Proofs.YtdeneoknjeegbaaDoorW.PrintLast Go.Proofs.YtdeneoknjeegbaaDoorW.PrintMore
abbrev BytesV (w : World) (ok : Nat → Prop) (v : Value) (l : List Int) : Prop := Kd.V (Kd.int .u8) 5 w w.heap.size ok v l
def LeafPost (P1 P2 : Nat → Prop) (p base : Nat) (size room : Int) (vc : Value) (A' : Option Addr) (c' : Nat) (cs : List (List Value)) (l1 l2 lh : List Int) (since : Int) (w w' : World) : Prop :=
  ∃ v1 B1 d1 B2 d2 B9 d9, ABlk w' p size room v1 (.slice A' 0 c') ∧
        CellsR w' base v1 (cs ++ [[.bool true, .bool true, .slice B1 l1.length d1, .slice B2 l2.length d2, .int .i64 since, .int .i64 0, .slice none 0 0, .int .i64 since, .int .i64 0, .int .i64 0, .slice B9 lh.length d9]]) ∧
        BytesV w' (fun k => (P1 k ∨ P2 k ∨ w.heap.size ≤ k) ∧ k ≠ p ∧ some k ≠ v1.ownBlock) (.slice B1 l1.length d1) l1 ∧ BytesV w' (fun k => (P1 k ∨ P2 k ∨ w.heap.size ≤ k) ∧ k ≠ p ∧ some k ≠ v1.ownBlock) (.slice B2 l2.length d2) l2 ∧ BytesV w' (fun k => (P1 k ∨ P2 k ∨ w.heap.size ≤ k) ∧ k ≠ p ∧ some k ≠ v1.ownBlock) (.slice B9 lh.length d9) lh ∧
        (v1.ownBlock = vc.ownBlock ∨ ∃ b, v1.ownBlock = some b ∧ w.heap.size ≤ b) ∧ KeepBut w w' p vc.ownBlock ∧ (base ≤ w.heap.size → Below base w w')
attribute [local go_sem] max2_int min2_int max_two min_two
set_option maxHeartbeats 4000000 in
set_option maxRecDepth 100000 in
theorem leaf_grow {w : World} {p base : Nat} {size room : Int} {vc : Value} {A' : Option Addr} {c' : Nat} {cs : List (List Value)} (P1 P2 : Nat → Prop) (A1 A2 : Option Addr) (c1 c2 : Nat) (l1 l2 lh : List Int) (since : Int) (k : Nat)
    (h : ABlk w p size room vc (.slice A' 0 c')) (hR : CellsR w base vc cs) (hs : size ≠ 0) (hb : base ≤ p) (hr : (cs.length : Int) < room) (hr1 : room ≤ 4194304)
    (h1 : BytesV w P1 (.slice A1 l1.length c1) l1) (h2 : BytesV w P2 (.slice A2 l2.length c2) l2) (n1 : ∀ k, P1 k → k ≠ p ∧ some k ≠ vc.ownBlock) (n2 : ∀ k, P2 k → k ≠ p ∧ some k ≠ vc.ownBlock)
    (hl1 : l1.length ≤ 65535) (hl2 : l2.length ≤ 65535) (hsi : 0 ≤ since) (hGS : GlobS w) (hf : arena_LeafHash.f k size l1 l2 since = some lh) :
    Calls Tryd.prog 37 #[.pointer (some ⟨p, 0, none⟩), .slice A1 l1.length c1, .slice A2 l2.length c2, .int .i64 since] w
      fun e w' => e = .returned (.tuple #[.int .i64 (cs.length : Int), .int .i64 0]) ∧ LeafPost P1 P2 p base size room vc A' c' cs l1 l2 lh since w w' := by
  obtain ⟨j, hj⟩ : ∃ j : Int, j = if l1.length < l2.length then (l2.length : Int) else (l1.length : Int) := ⟨_, rfl⟩
  have hj1 : decide (65535 < j) = false := decide_eq_false (by rw [hj]; split <;> omega)
  have hj2 := hj.symm
  have hsd : decide (since < 0) = false := decide_eq_false (by omega)
  have HBk := Aside0.mk h
  have HR := Aside0.mk hR
  have HS := Aside0.mk hs
  have HBP := Aside0.mk hb
  have HRL := Aside0.mk hr
  have HRM := Aside0.mk hr1
  have H1 := Aside0.mk h1
  have H2 := Aside0.mk h2
  have HN1 := Aside0.mk n1
  have HN2 := Aside0.mk n2
  have HL1 := Aside0.mk hl1
  have HL2 := Aside0.mk hl2
  have HGS := Aside0.mk hGS
  have HF := Aside0.mk hf
  clear h hR hs hb hr hr1 h1 h2 n1 n2 hl1 hl2 hGS hf hj hsi
  go_enter Tryd.func37, Tryd.ntmps37
  go_wp2_with fail
  refine (none_calls HBk.out HS.out).mono ?_
  rintro e w' ⟨rfl, rfl⟩
  go_wp2_with fail
  refine (slices_Clone_byte_byte.calls A1 c1 l1 l1 _ (Kd.V_reads' H1.out).2.2 (Kd.V_reads' H1.out).2.1 (if_pos (by have := HL1.out; omega))).mono ?_
  rintro e1 w1 ⟨v, rfl, hR1, hB1⟩
  obtain ⟨B1, d1, rfl⟩ := Kd.R_slice hR1
  have HR1 := Aside0.mk hR1
  have HB1 := Aside0.mk hB1
  clear hR1 hB1
  go_wp2_with fail
  refine (slices_Clone_byte_byte.calls A2 c2 l2 l2 _ (Kd.V_reads' (Kd.V_below H2.out HB1.out)).2.2 (Kd.V_reads' H2.out).2.1 (if_pos (by have := HL2.out; omega))).mono ?_
  rintro e2 w2 ⟨v, rfl, hR2, hB2⟩
  obtain ⟨B2, d2, rfl⟩ := Kd.R_slice hR2
  have HR2 := Aside0.mk hR2
  have HB2 := Aside0.mk hB2
  clear hR2 hB2
  have HBk2 := Aside0.mk ((HBk.out.below HB1.out).below HB2.out)
  obtain ⟨k0, k1, k2, k3⟩ := HBk2.out.cells
  have hp2 : p < w2.heap.size := HBk2.out.lt
  go_wp2_with fail
  obtain ⟨W3, hW3⟩ : ∃ W3, W3 = w2.alloc (.cells #[.bool true, .slice B1 l1.length d1, .slice B2 l2.length d2, .int .i64 since, .int .i64 0, .slice none 0 0, .int .i64 since, .int .i64 0, .int .i64 0, .slice none 0 0] 39) := ⟨_, rfl⟩
  rw [← hW3]
  have hB3 : Below w2.heap.size w2 W3 := by rw [hW3]; exact below_alloc (Below.refl _ _) _
  have hB03 : Below w.heap.size w W3 := (HB1.out.trans (HB2.out.mono HB1.out.size)).trans (hB3.mono (by have := HB1.out.size; have := HB2.out.size; omega))
  have hN3 : W3.heap[w2.heap.size]? = some (.cells #[.bool true, .slice B1 l1.length d1, .slice B2 l2.length d2, .int .i64 since, .int .i64 0, .slice none 0 0, .int .i64 since, .int .i64 0, .int .i64 0, .slice none 0 0] 39 (0, 0)) := by rw [hW3]; exact heap_alloc_new w2 _
  have HB3 := Aside0.mk hB3
  have HB03 := Aside0.mk hB03
  have HN3 := Aside0.mk hN3
  clear hB3 hB03 hN3 hW3 k0 k1 k2 k3 hp2
  refine (arena_LeafHash.calls k size (fun k => P1 k ∧ k < w.heap.size) A1 c1 l1 (fun k => P2 k ∧ k < w.heap.size) A2 c2 l2 since lh W3 (Kd.V_below (Kd.V_bound H1.out) HB03.out) (Kd.V_below (Kd.V_bound H2.out) HB03.out) (GlobS.of HGS.out HB03.out) HF.out).mono ?_
  rintro e3 w4 ⟨v, rfl, hV4, hB4⟩
  obtain ⟨B9, d9, rfl⟩ := Kd.V_slice hV4
  have HV4 := Aside0.mk hV4
  have HB4 := Aside0.mk hB4
  have HN4 := Aside0.mk ((hB4.block w2.heap.size (blk_lt HN3.out)).trans HN3.out)
  clear hV4 hB4
  obtain ⟨b, hb⟩ : ∃ b, b = w2.heap.size := ⟨_, rfl⟩
  rw [← hb] at HN4
  rw [← hb]
  have HBE := Aside0.mk hb
  clear hb
  have m0 := blk_cell HN4.out 0
  have m1 := blk_cell HN4.out 1
  have m2 := blk_cell HN4.out 2
  have m3 := blk_cell HN4.out 3
  have m4 := blk_cell HN4.out 4
  have m5 := blk_cell HN4.out 5
  have m6 := blk_cell HN4.out 6
  have m7 := blk_cell HN4.out 7
  have m8 := blk_cell HN4.out 8
  have m9 := blk_cell HN4.out 9
  have f9 := blk_frozen HN4.out 9
  go_wp2_with fail
  have s1 := HB1.out.size
  have s2 := HB2.out.size
  have s3 := HB3.out.size
  have s4 := HB4.out.size
  have hb3 : b < W3.heap.size := by rw [HBE.out]; exact blk_lt HN3.out
  have hpw : p < w.heap.size := HBk.out.lt
  have hbe := HBE.out
  have hB04 : Below w.heap.size w w4 := HB03.out.trans (HB4.out.mono (by omega))
  have hR4 : CellsR (w4.setCell ⟨b, 9, none⟩ (.slice B9 lh.length d9)) base vc cs := Kd.R_set (Kd.R_below HR.out hB04) HN4.out (by decide) 9 _
  have hK4 : ABlk (w4.setCell ⟨b, 9, none⟩ (.slice B9 lh.length d9)) p size room vc (.slice A' 0 c') := blk_far (HBk.out.below hB04) (p := ⟨b, 9, none⟩) (by show p ≠ b; omega) _
  refine (put_grow (base := base) true B1 B2 none B9 l1.length l2.length 0 lh.length d1 d2 0 d9 since 0 since 0 0 hK4 hR4 HS.out HBP.out HRL.out HRM.out).mono ?_
  rintro e5 w5 ⟨rfl, hpost⟩
  have HPO := Aside0.mk hpost
  clear hpost m0 m1 m2 m3 m4 m5 m6 m7 m8 m9 f9 s1 s2 s3 s4 hb3 hpw hbe hB04 hR4 hK4
  go_wp2_with fail
  go_ret2
  have s1 := HB1.out.size
  have s2 := HB2.out.size
  have s3 := HB3.out.size
  have s4 := HB4.out.size
  have hb3 : b < W3.heap.size := by rw [HBE.out]; exact blk_lt HN3.out
  have hpw : p < w.heap.size := HBk.out.lt
  have hbe := HBE.out
  have hB04 : Below w.heap.size w w4 := HB03.out.trans (HB4.out.mono (by omega))
  obtain ⟨v1, hA5, hR5, hat, hkb, hbel⟩ := HPO.out
  refine ⟨rfl, ?_⟩
  unfold LeafPost
  have hown : ∀ k, vc.ownBlock = some k → k < w.heap.size := fun k hk => by
    obtain ⟨inner, ho⟩ := Kd.R_own HR.out
    exact own_lt ho k hk
  have hsz : (w4.setCell ⟨b, 9, none⟩ (.slice B9 lh.length d9)).heap.size = w4.heap.size := by simp [World.setCell]
  have hst : ∀ k, k ≠ p → some k ≠ vc.ownBlock → k ≠ b → k < w4.heap.size → w5.heap[k]? = w4.heap[k]? := fun k h1 h2 h3 h4 => (hkb.2 k (by rw [hsz]; exact h4) h1 h2).trans (Below.heap_setCell w4 ⟨b, 9, none⟩ _ k h3)
  have hv1 : ∀ k, k < w4.heap.size → some k ≠ vc.ownBlock → some k ≠ v1.ownBlock := fun k h1 h2 => by
    rcases hat with h | ⟨q, h, hle⟩
    · rw [h]
      exact h2
    · rw [h]
      intro he
      injection he with he
      rw [hsz] at hle
      omega
  have hne : ∀ k, w.heap.size ≤ k → k ≠ p ∧ some k ≠ vc.ownBlock := fun k hk => ⟨by omega, fun he => by have := hown k he.symm; omega⟩
  have hV1 := Kd.V_below (Kd.V_below (Kd.V_below (Kd.R_V (base' := w.heap.size) (Kd.R_bound HR1.out)) HB2.out) HB3.out) HB4.out
  have hV2 := Kd.V_below (Kd.V_below (Kd.R_V (base' := w.heap.size) (Kd.R_bound HR2.out)) HB3.out) HB4.out
  have hV9 := Kd.V_bound HV4.out
  refine ⟨v1, B1, d1, B2, d2, B9, d9, hA5, hR5, ?_, ?_, ?_, ?_, ⟨?_, ?_⟩, ?_⟩
  · refine Kd.V_mono (Kd.V_step hV1 fun k hk hlt => ?_) fun k hk => ?_
    · exact hst k (hne k hk.2.1).1 (hne k hk.2.1).2 (by have := hk.2.2.1; omega) hlt
    · have := hk.2.2.1
      exact ⟨.inr (.inr hk.2.1), (hne k hk.2.1).1, hv1 k (by omega) (hne k hk.2.1).2⟩
  · refine Kd.V_mono (Kd.V_step hV2 fun k hk hlt => ?_) fun k hk => ?_
    · have h1 : w.heap.size ≤ k := by have := hk.2.1; omega
      exact hst k (hne k h1).1 (hne k h1).2 (by have := hk.2.2.1; omega) hlt
    · have h1 : w.heap.size ≤ k := by have := hk.2.1; omega
      have := hk.2.2.1
      exact ⟨.inr (.inr h1), (hne k h1).1, hv1 k (by omega) (hne k h1).2⟩
  · have hx : ∀ k, (((P1 k ∧ k < w.heap.size) ∨ (P2 k ∧ k < w.heap.size)) ∨ W3.heap.size ≤ k) → (P1 k ∨ P2 k ∨ w.heap.size ≤ k) ∧ (k ≠ p ∧ some k ≠ vc.ownBlock) ∧ k ≠ b := fun k hk => by
      rcases hk with (⟨h1, h2⟩ | ⟨h1, h2⟩) | h1
      · exact ⟨.inl h1, HN1.out k h1, by omega⟩
      · exact ⟨.inr (.inl h1), HN2.out k h1, by omega⟩
      · exact ⟨.inr (.inr (by omega)), hne k (by omega), by omega⟩
    refine Kd.V_mono (Kd.V_step hV9 fun k hk hlt => ?_) fun k hk => ?_
    · have h1 := hx k hk.1
      exact hst k h1.2.1.1 h1.2.1.2 h1.2.2 hlt
    · have h1 := hx k hk.1
      exact ⟨h1.1, h1.2.1.1, hv1 k hk.2 h1.2.1.2⟩
  · rcases hat with h | ⟨q, h, hle⟩
    · exact .inl h
    · exact .inr ⟨q, h, by omega⟩
  · have := hkb.1
    omega
  · intro i hi hip hio
    exact (hst i hip hio (by omega) (by omega)).trans (hB04.block i hi)
  · intro hbw
    have h1 : Below base w (w4.setCell ⟨b, 9, none⟩ (.slice B9 lh.length d9)) := (hB04.mono hbw).setCell (by show base ≤ b; omega) _
    exact h1.trans (hbel (by omega))
end Go.Proofs.YtdeneoknjeegbaaDoor.P
end
section
namespace Go.Proofs.YtdeneoknjeegbaaDoor.P
open Go.RowKit Go.Proofs.YtdeneoknjeegbaaDoorW.PrintWords Go.Proofs.YtdeneoknjeegbaaDoorW.PrintLast Go.Proofs.YtdeneoknjeegbaaDoorW.PrintMore
attribute [local go_sem] max2_int min2_int max_two min_two max_three min_three max_four min_four
set_option linter.unusedVariables false
set_option linter.unusedSimpArgs false
def annalsref01_right.f (a0 : Int) (a1 : Int) : Option (Int) := if 0 ≤ a1 then (if 0 ≤ (wrap64 (32 - a1)) then (some (Go.bits .or .u32 (shr .u32 a0 a1) (shl .u32 a0 (wrap64 (32 - a1))))) else (none)) else (none)
set_option maxHeartbeats 8000000 in
set_option maxRecDepth 100000 in
theorem annalsref01_right.calls (a0 : Int) (a1 : Int) (r : Int) (w : World) (h : annalsref01_right.f a0 a1 = some r) :
    Calls Tryd.prog 113 #[.int .u32 a0, .int .i64 a1] w fun e w' => e = .returned (.int .u32 r) ∧ Drawn0 w w' := by
  have H : (if 0 ≤ a1 then (if 0 ≤ (wrap64 (32 - a1)) then (some (Go.bits .or .u32 (shr .u32 a0 a1) (shl .u32 a0 (wrap64 (32 - a1))))) else (none)) else (none)) = some r := h
  clear h
  by_cases c3 : 0 ≤ a1
  · rw [if_pos c3] at H
    have c3b0 := eq_true c3
    have c3b1 : decide (0 ≤ a1) = true := decide_eq_true c3
    clear c3
    obtain ⟨ji4, hji4⟩ : ∃ j_ : Int, (shr .u32 a0 a1) = j_ := ⟨_, rfl⟩
    replace H : (if 0 ≤ (wrap64 (32 - a1)) then (some (Go.bits .or .u32 (ji4) (shl .u32 a0 (wrap64 (32 - a1))))) else (none)) = some r := by first | (rw [hji4] at H; exact H) | (simp only [hji4] at H ⊢; exact H)
    have hji4_ : (a0 / 2 ^ min a1.toNat 32) = ji4 := hji4
    have hji4z : a1 ≤ 32 → (a0 / 2 ^ a1.toNat) = ji4 := shr_small hji4
    obtain ⟨ji5, hji5⟩ : ∃ j_ : Int, (wrap64 (32 - a1)) = j_ := ⟨_, rfl⟩
    replace H : (if 0 ≤ (ji5) then (some (Go.bits .or .u32 (ji4) (shl .u32 a0 (ji5)))) else (none)) = some r := by first | (rw [hji5] at H; exact H) | (simp only [hji5] at H ⊢; exact H)
    have hji5w : (IntKind.i64.wrap (32 - a1)) = ji5 := (i64_w _).trans hji5
    by_cases c6 : 0 ≤ (ji5)
    · rw [if_pos c6] at H
      have c6b0 := eq_true c6
      have c6b1 : decide (0 ≤ (ji5)) = true := decide_eq_true c6
      clear c6
      obtain ⟨ji7, hji7⟩ : ∃ j_ : Int, (shl .u32 a0 (ji5)) = j_ := ⟨_, rfl⟩
      replace H : (some (Go.bits .or .u32 (ji4) (ji7))) = some r := by first | (rw [hji7] at H; exact H) | (simp only [hji7] at H ⊢; exact H)
      have hji7_ : (IntKind.u32.wrap (a0 * 2 ^ min (ji5).toNat 32)) = ji7 := hji7
      have hji7z : (ji5) ≤ 32 → (IntKind.u32.wrap (a0 * 2 ^ (ji5).toNat)) = ji7 := shl_small hji7
      obtain rfl := Option.some.inj H
      go_enter Tryd.func113, Tryd.ntmps113
      go_wp2
      repeat (go_quiet (fail); try go_wp2)
      go_ret
      exact ⟨by first | rfl | (simp; done) | (simp only [← hji4, ← hji5, ← hji7] <;> (first | rfl | simp)) | (simp [*]; done), by repeat (first | exact Drawn0.refl _ | apply Drawn0.step)⟩
    · rw [if_neg c6] at H
      exact absurd H (by simp)
  · rw [if_neg c3] at H
    exact absurd H (by simp)
end Go.Proofs.YtdeneoknjeegbaaDoor.P
end
section
set_option linter.unusedVariables false
set_option linter.unusedSimpArgs false
namespace Go.Proofs.YtdeneoknjeegbaaDoor.P
open Go.RowKit Go.Proofs.YtdeneoknjeegbaaDoorW.PrintWords Go.Proofs.YtdeneoknjeegbaaDoorW.PrintLast Go.Proofs.YtdeneoknjeegbaaDoorW.PrintMore
theorem right_some (x n : Int) (h0 : 0 ≤ n) (h1 : n ≤ 32) : annalsref01_right.f x n = some ((annalsref01_right.f x n).getD 0) := by
  unfold annalsref01_right.f
  rw [if_pos h0, if_pos (by unfold wrap64; omega)]
  rfl
def Sums.agg (s : Sums) : Value := .agg #[.int .u32 s.a, .int .u32 s.b, .int .u32 s.c, .int .u32 s.d, .int .u32 s.e, .int .u32 s.f, .int .u32 s.g, .int .u32 s.h]
def Sums.rround (s : Sums) (add : Int) : Sums :=
  let s0 := Go.bits .xor .u32 (Go.bits .xor .u32 ((annalsref01_right.f s.a 2).getD 0) ((annalsref01_right.f s.a 13).getD 0)) ((annalsref01_right.f s.a 22).getD 0)
  let s1 := Go.bits .xor .u32 (Go.bits .xor .u32 ((annalsref01_right.f s.e 6).getD 0) ((annalsref01_right.f s.e 11).getD 0)) ((annalsref01_right.f s.e 25).getD 0)
  let choice := Go.bits .xor .u32 (Go.bits .and .u32 s.e s.f) (Go.bits .and .u32 (Go.bits .xor .u32 IntKind.u32.max s.e) s.g)
  let most := Go.bits .xor .u32 (Go.bits .xor .u32 (Go.bits .and .u32 s.a s.b) (Go.bits .and .u32 s.a s.c)) (Go.bits .and .u32 s.b s.c)
  ⟨(s.h + s1 + choice + add + s0 + most) % 4294967296, s.a, s.b, s.c, (s.d + (s.h + s1 + choice + add)) % 4294967296, s.e, s.f, s.g⟩
set_option maxRecDepth 100000 in
theorem results_round (W : World) (g : Nat) (v : Sums) (h : IsWords W g 148 v.list) (tm : Array Value) (h4 : tm[4]?.getD undef = .pointer (some ⟨g, 0, none⟩)) : (results Tryd.f114 tm).run Tryd.prog W = .ok v.agg W := by
  obtain ⟨c0, c1, c2, c3, c4, c5, c6, c7⟩ := IsSums.cells h
  simp [results, Tryd.results114, go_sem, h4, c0, c1, c2, c3, c4, c5, c6, c7, Sums.agg]
set_option maxHeartbeats 4000000 in
set_option maxRecDepth 100000 in
theorem round_calls (s : Sums) (add : Int) (w : World) :
    Calls Tryd.prog 114 #[s.agg, .int .u32 add] w fun e w' => e = .returned (s.rround add).agg ∧ Below w.heap.size w w' := by
  obtain ⟨y1, h1⟩ : ∃ y, annalsref01_right.f s.a 2 = some y := ⟨_, right_some _ _ (by omega) (by omega)⟩
  obtain ⟨y2, h2⟩ : ∃ y, annalsref01_right.f s.a 13 = some y := ⟨_, right_some _ _ (by omega) (by omega)⟩
  obtain ⟨y3, h3⟩ : ∃ y, annalsref01_right.f s.a 22 = some y := ⟨_, right_some _ _ (by omega) (by omega)⟩
  obtain ⟨y4, h4⟩ : ∃ y, annalsref01_right.f s.e 6 = some y := ⟨_, right_some _ _ (by omega) (by omega)⟩
  obtain ⟨y5, h5⟩ : ∃ y, annalsref01_right.f s.e 11 = some y := ⟨_, right_some _ _ (by omega) (by omega)⟩
  obtain ⟨y6, h6⟩ : ∃ y, annalsref01_right.f s.e 25 = some y := ⟨_, right_some _ _ (by omega) (by omega)⟩
  have G1 := Aside0.mk h1
  have G2 := Aside0.mk h2
  have G3 := Aside0.mk h3
  have G4 := Aside0.mk h4
  have G5 := Aside0.mk h5
  have G6 := Aside0.mk h6
  clear h1 h2 h3 h4 h5 h6
  unfold Sums.agg
  go_enter Tryd.func114, Tryd.ntmps114
  go_wp2_with fail
  obtain ⟨W1, hW1⟩ : ∃ W1, W1 = (w.alloc (Obj.cells (#[.int .u32 s.a, .int .u32 s.b, .int .u32 s.c, .int .u32 s.d, .int .u32 s.e, .int .u32 s.f, .int .u32 s.g, .int .u32 s.h]) 148 (0, 0))).alloc (Obj.cells (#[.int .u32 0, .int .u32 0, .int .u32 0, .int .u32 0, .int .u32 0, .int .u32 0, .int .u32 0, .int .u32 0]) 148 (0, 0)) := ⟨_, rfl⟩
  have hz : (w.alloc (Obj.cells (#[.int .u32 s.a, .int .u32 s.b, .int .u32 s.c, .int .u32 s.d, .int .u32 s.e, .int .u32 s.f, .int .u32 s.g, .int .u32 s.h]) 148 (0, 0))).heap.size = w.heap.size + 1 := by simp
  have hI : IsWords W1 w.heap.size 148 s.list := by
    rw [hW1]
    exact (below_alloc (Below.refl _ _) _).block _ (by rw [hz]; omega) |>.trans (heap_alloc_new w _)
  have hJ : IsWords W1 (w.heap.size + 1) 148 [0, 0, 0, 0, 0, 0, 0, 0] := by
    rw [hW1, ← hz]
    exact heap_alloc_new _ _
  have hB : Below w.heap.size w W1 := by
    rw [hW1]
    exact (below_alloc (Below.refl _ _) _).trans ((below_alloc (Below.refl _ _) _).mono (by rw [hz]; omega))
  rw [← hW1]
  obtain ⟨g, hg⟩ : ∃ g, g = w.heap.size := ⟨_, rfl⟩
  rw [← hg] at hI hJ
  rw [← hg]
  have HJ := Aside0.mk hJ
  have HB := Aside0.mk hB
  have HG := Aside0.mk hg
  obtain ⟨c0, c1, c2, c3, c4, c5, c6, c7⟩ := IsSums.cells hI
  obtain ⟨d0, d1, d2, d3, d4, d5, d6, d7⟩ := IsSums.cells (s := ⟨0, 0, 0, 0, 0, 0, 0, 0⟩) hJ
  have f0 := hJ.frozen 0
  have f1 := hJ.frozen 1
  have f2 := hJ.frozen 2
  have f3 := hJ.frozen 3
  have f4 := hJ.frozen 4
  have f5 := hJ.frozen 5
  have f6 := hJ.frozen 6
  have f7 := hJ.frozen 7
  clear hI hJ hB hg hz hW1
  go_quiet ((go_at_call 113; (first | with_reducible exact quiet_drawn0 (annalsref01_right.calls s.a 2 y1 _ G1.out) | with_reducible exact quiet_drawn2 (annalsref01_right.calls s.a 2 y1 _ G1.out) | with_reducible exact quiet_drawn (annalsref01_right.calls s.a 2 y1 _ G1.out) | with_reducible exact quiet_drawn0 (annalsref01_right.calls s.a 13 y2 _ G2.out) | with_reducible exact quiet_drawn2 (annalsref01_right.calls s.a 13 y2 _ G2.out) | with_reducible exact quiet_drawn (annalsref01_right.calls s.a 13 y2 _ G2.out) | with_reducible exact quiet_drawn0 (annalsref01_right.calls s.a 22 y3 _ G3.out) | with_reducible exact quiet_drawn2 (annalsref01_right.calls s.a 22 y3 _ G3.out) | with_reducible exact quiet_drawn (annalsref01_right.calls s.a 22 y3 _ G3.out))))
  go_wp2_with fail
  go_quiet ((go_at_call 113; (first | with_reducible exact quiet_drawn0 (annalsref01_right.calls s.e 6 y4 _ G4.out) | with_reducible exact quiet_drawn2 (annalsref01_right.calls s.e 6 y4 _ G4.out) | with_reducible exact quiet_drawn (annalsref01_right.calls s.e 6 y4 _ G4.out) | with_reducible exact quiet_drawn0 (annalsref01_right.calls s.e 11 y5 _ G5.out) | with_reducible exact quiet_drawn2 (annalsref01_right.calls s.e 11 y5 _ G5.out) | with_reducible exact quiet_drawn (annalsref01_right.calls s.e 11 y5 _ G5.out) | with_reducible exact quiet_drawn0 (annalsref01_right.calls s.e 25 y6 _ G6.out) | with_reducible exact quiet_drawn2 (annalsref01_right.calls s.e 25 y6 _ G6.out) | with_reducible exact quiet_drawn (annalsref01_right.calls s.e 25 y6 _ G6.out))))
  go_wp2_with fail
  have hR : s.rround add = ⟨(s.h + Go.bits .xor .u32 (Go.bits .xor .u32 y4 y5) y6 + Go.bits .xor .u32 (Go.bits .and .u32 s.e s.f) (Go.bits .and .u32 (Go.bits .xor .u32 IntKind.u32.max s.e) s.g) + add + Go.bits .xor .u32 (Go.bits .xor .u32 y1 y2) y3 + Go.bits .xor .u32 (Go.bits .xor .u32 (Go.bits .and .u32 s.a s.b) (Go.bits .and .u32 s.a s.c)) (Go.bits .and .u32 s.b s.c)) % 4294967296, s.a, s.b, s.c, (s.d + (s.h + Go.bits .xor .u32 (Go.bits .xor .u32 y4 y5) y6 + Go.bits .xor .u32 (Go.bits .and .u32 s.e s.f) (Go.bits .and .u32 (Go.bits .xor .u32 IntKind.u32.max s.e) s.g) + add)) % 4294967296, s.e, s.f, s.g⟩ := by
    unfold Sums.rround
    rw [G1.out, G2.out, G3.out, G4.out, G5.out, G6.out]
    rfl
  have hW := fun n => put8_words (s := ⟨0, 0, 0, 0, 0, 0, 0, 0⟩) (HJ.out.drewN n) (s.rround add).a (s.rround add).b (s.rround add).c (s.rround add).d (s.rround add).e (s.rround add).f (s.rround add).g (s.rround add).h
  have hB2 := fun n => put8_below (w0 := w) (w := W1.drewN n) ⟨HB.out.os, HB.out.tape, HB.out.output, HB.out.size, HB.out.block⟩ (g := g + 1) (by have := HG.out; omega) (s.rround add).a (s.rround add).b (s.rround add).c (s.rround add).d (s.rround add).e (s.rround add).f (s.rround add).g (s.rround add).h
  obtain ⟨S, hS⟩ : ∃ S, S = s.rround add := ⟨_, rfl⟩
  rw [← hS] at hR hW hB2
  rw [← hS]
  obtain ⟨va, hva⟩ : ∃ va, va = S.a := ⟨_, rfl⟩
  obtain ⟨ve, hve⟩ : ∃ ve, ve = S.e := ⟨_, rfl⟩
  clear c0 c1 c2 c3 c4 c5 c6 c7 d0 d1 d2 d3 d4 d5 d6 d7 f0 f1 f2 f3 f4 f5 f6 f7
  have hSa : S.a = _ := congrArg Sums.a hR
  have hSe : S.e = _ := congrArg Sums.e hR
  have hSb : S.b = s.a := congrArg Sums.b hR
  have hSc : S.c = s.b := congrArg Sums.c hR
  have hSd : S.d = s.c := congrArg Sums.d hR
  have hSf : S.f = s.e := congrArg Sums.f hR
  have hSg : S.g = s.f := congrArg Sums.g hR
  have hSh : S.h = s.g := congrArg Sums.h hR
  simp only [hSb, hSc, hSd, hSf, hSg, hSh] at hW hB2
  rw [hSa, hSe] at hW hB2
  refine bodyPost_ret (v := S.agg) (results_round _ (g + 1) S ?_ _ rfl) rfl ⟨rfl, hB2 _⟩
  rw [hR]
  exact hW _
end Go.Proofs.YtdeneoknjeegbaaDoor.P
end
section
set_option linter.unusedVariables false
set_option linter.unusedSimpArgs false
namespace Go.Proofs.YtdeneoknjeegbaaDoor.P
open Go.RowKit Go.Proofs.YtdeneoknjeegbaaDoorW.PrintWords Go.Proofs.YtdeneoknjeegbaaDoorW.PrintLast Go.Proofs.YtdeneoknjeegbaaDoorW.PrintMore
theorem results_row (fn : Func) (g t : Nat) (n e : Nat) (slot : Nat) (cs : Array Value) (tm : Array Value) (W : World) (hf : fn.results = #[.cell slot t]) (hu : Tryd.prog.underlying t = some (.array n e)) (hi : (Tryd.prog.info? t).map (·.size) = some cs.size)
    (h : W.heap[g]? = some (.cells cs t (0, 0))) (h4 : tm.getD slot undef = .pointer (some ⟨g, 0, none⟩)) : (results fn tm).run Tryd.prog W = .ok (.agg cs) W := by
  unfold results
  rw [hf]
  have hl := run_loadVar_row (P := Tryd.prog) W g t t cs (0, 0) (.array n e) h hu rfl hi
  have h4' : tm[slot]?.getD undef = .pointer (some ⟨g, 0, none⟩) := by simpa using h4
  simp [h4', asAddr, hl]
set_option maxHeartbeats 4000000 in
set_option maxRecDepth 100000 in
theorem adds_calls (w : World) :
    Calls Tryd.prog 110 #[] w fun e w' => e = .returned (.agg (words shaAdded)) ∧ Below w.heap.size w w' := by
  go_enter Tryd.func110, Tryd.ntmps110
  have hbl : Tryd.prog.built 153 ((List.range 64).map fun i => (i, Value.int .u32 (shaAdded.getD i 0))) = some (words shaAdded) := by kernel_rfl
  go_wp2_with (first | (refine wpList_build rfl 153 _ rfl (by kernel_rfl) ?_) | (refine wpList_store_row rfl 153 (.tmp 0) (.tmp 1) rfl w.heap.size (words shaAdded) rfl (by kernel_rfl) 153 _ (heap_alloc_new w _) (by kernel_rfl) (by kernel_rfl) (by kernel_rfl) ?_))
  refine bodyPost_ret (v := .agg (words shaAdded)) (results_row _ w.heap.size 153 64 147 0 _ _ _ rfl Tryd.underlying153 (by kernel_rfl) (setRow_heap _ _ _ _ _ _ (heap_alloc_new w _)) rfl) rfl ⟨rfl, below_setRow (below_alloc (Below.refl _ _) _) (Nat.le_refl _) _⟩
end Go.Proofs.YtdeneoknjeegbaaDoor.P
end
section
namespace Go.Proofs.YtdeneoknjeegbaaDoor.P
open Go.RowKit Go.Proofs.YtdeneoknjeegbaaDoorW.PrintWords Go.Proofs.YtdeneoknjeegbaaDoorW.PrintLast Go.Proofs.YtdeneoknjeegbaaDoorW.PrintMore
attribute [local go_sem] max2_int min2_int max_two min_two max_three min_three max_four min_four
set_option linter.unusedVariables false
set_option linter.unusedSimpArgs false
def annalsref01_word.f (l0 : List Int) : Option (Int) := if 0 < (l0.length : Int) then (if 1 < (l0.length : Int) then (if 2 < (l0.length : Int) then (if 3 < (l0.length : Int) then (some ((((((((((rd l0 0) % 4294967296) * 16777216) % 4294967296) + ((((rd l0 1) % 4294967296) * 65536) % 4294967296)) % 4294967296) + ((((rd l0 2) % 4294967296) * 256) % 4294967296)) % 4294967296) + ((rd l0 3) % 4294967296)) % 4294967296)) else (none)) else (none)) else (none)) else (none)
set_option maxHeartbeats 8000000 in
set_option maxRecDepth 100000 in
theorem annalsref01_word.calls (A0 : Option Addr) (c0 : Nat) (l0 : List Int) (r : Int) (w : World) (hr0 : Kd.C (Kd.int .u8) w A0 l0.length l0) (hc0 : l0.length ≤ c0) (h : annalsref01_word.f l0 = some r) :
    Calls Tryd.prog 112 #[.slice A0 l0.length c0] w fun e w' => e = .returned (.int .u32 r) ∧ Drawn0 w w' := by
  have HR0 := Aside0.mk hr0
  have HC0 := Aside0.mk hc0
  clear hr0 hc0
  have H : (if 0 < (l0.length : Int) then (if 1 < (l0.length : Int) then (if 2 < (l0.length : Int) then (if 3 < (l0.length : Int) then (some ((((((((((rd l0 0) % 4294967296) * 16777216) % 4294967296) + ((((rd l0 1) % 4294967296) * 65536) % 4294967296)) % 4294967296) + ((((rd l0 2) % 4294967296) * 256) % 4294967296)) % 4294967296) + ((rd l0 3) % 4294967296)) % 4294967296)) else (none)) else (none)) else (none)) else (none)) = some r := h
  clear h
  by_cases c2 : 0 < (l0.length : Int)
  · rw [if_pos c2] at H
    have c2b0 : decide (0 < (l0.length : Int)) = true := decide_eq_true c2
    have c2b1 : decide (0 < l0.length) = true := decide_eq_true (by omega)
    clear c2
    by_cases c3 : 1 < (l0.length : Int)
    · rw [if_pos c3] at H
      have c3b0 : decide (1 < (l0.length : Int)) = true := decide_eq_true c3
      have c3b1 : decide (1 < l0.length) = true := decide_eq_true (by omega)
      clear c3
      by_cases c4 : 2 < (l0.length : Int)
      · rw [if_pos c4] at H
        have c4b0 : decide (2 < (l0.length : Int)) = true := decide_eq_true c4
        have c4b1 : decide (2 < l0.length) = true := decide_eq_true (by omega)
        clear c4
        by_cases c5 : 3 < (l0.length : Int)
        · rw [if_pos c5] at H
          have c5b0 : decide (3 < (l0.length : Int)) = true := decide_eq_true c5
          have c5b1 : decide (3 < l0.length) = true := decide_eq_true (by omega)
          clear c5
          obtain rfl := Option.some.inj H
          have p168 : 0 ≤ (0 : Int) := (by omega)
          have q168 : 0 < (l0.length : Int) := of_decide_eq_true (by first | (with_reducible assumption) | assumption)
          obtain ⟨ad168, e168, hx168_0⟩ := Kd.at_int HR0.out 0 p168 q168
          cases e168
          have qi168 : (0 < l0.length) = True := eq_true (by omega)
          (try rw [show ((0 : Int)).toNat = 0 from rfl] at hx168_0)
          (try rw [Addr.add_zero'] at hx168_0)
          replace p168 := eq_true p168
          replace q168 := eq_true q168
          have p169 : 0 ≤ (1 : Int) := (by omega)
          have q169 : 1 < (l0.length : Int) := of_decide_eq_true (by first | (with_reducible assumption) | assumption)
          obtain ⟨ad169, e169, hx169_0⟩ := Kd.at_int HR0.out 1 p169 q169
          obtain rfl : ad168 = ad169 := (by injection e169)
          (try simp only [show (1 : Int).toNat = 1 from rfl, Nat.reduceMul, Nat.reduceEqDiff, Go.Addr.add, ↓reduceIte] at hx169_0)
          have qi169 : (1 < l0.length) = True := eq_true (by omega)
          (try rw [show ((1 : Int)).toNat = 1 from rfl] at hx169_0)
          replace p169 := eq_true p169
          replace q169 := eq_true q169
          have p170 : 0 ≤ (2 : Int) := (by omega)
          have q170 : 2 < (l0.length : Int) := of_decide_eq_true (by first | (with_reducible assumption) | assumption)
          obtain ⟨ad170, e170, hx170_0⟩ := Kd.at_int HR0.out 2 p170 q170
          obtain rfl : ad168 = ad170 := (by injection e170)
          (try simp only [show (2 : Int).toNat = 2 from rfl, Nat.reduceMul, Nat.reduceEqDiff, Go.Addr.add, ↓reduceIte] at hx170_0)
          have qi170 : (2 < l0.length) = True := eq_true (by omega)
          (try rw [show ((2 : Int)).toNat = 2 from rfl] at hx170_0)
          replace p170 := eq_true p170
          replace q170 := eq_true q170
          have p171 : 0 ≤ (3 : Int) := (by omega)
          have q171 : 3 < (l0.length : Int) := of_decide_eq_true (by first | (with_reducible assumption) | assumption)
          obtain ⟨ad171, e171, hx171_0⟩ := Kd.at_int HR0.out 3 p171 q171
          obtain rfl : ad168 = ad171 := (by injection e171)
          (try simp only [show (3 : Int).toNat = 3 from rfl, Nat.reduceMul, Nat.reduceEqDiff, Go.Addr.add, ↓reduceIte] at hx171_0)
          have qi171 : (3 < l0.length) = True := eq_true (by omega)
          (try rw [show ((3 : Int)).toNat = 3 from rfl] at hx171_0)
          replace p171 := eq_true p171
          replace q171 := eq_true q171
          go_enter Tryd.func112, Tryd.ntmps112
          go_wp2
          repeat (go_quiet (fail); try go_wp2)
          go_ret
          exact ⟨by first | rfl | (simp; done) | (simp [*]; done), by repeat (first | exact Drawn0.refl _ | apply Drawn0.step)⟩
        · rw [if_neg c5] at H
          exact absurd H (by simp)
      · rw [if_neg c4] at H
        exact absurd H (by simp)
    · rw [if_neg c3] at H
      exact absurd H (by simp)
  · rw [if_neg c2] at H
    exact absurd H (by simp)
end Go.Proofs.YtdeneoknjeegbaaDoor.P
end
section
namespace Go.Proofs.YtdeneoknjeegbaaDoor.P
open Go.RowKit Go.Proofs.YtdeneoknjeegbaaDoorW.PrintWords Go.Proofs.YtdeneoknjeegbaaDoorW.PrintLast Go.Proofs.YtdeneoknjeegbaaDoorW.PrintMore
attribute [local go_sem] max2_int min2_int max_two min_two max_three min_three max_four min_four
set_option linter.unusedVariables false
set_option linter.unusedSimpArgs false
def annalsref01_Blocks.f (a0 : Int) : Option (Int) := if a0 < 0 then (some (((0 : Int) / 64) + (((((0 : Int) % 64) + 9) + 63) / 64))) else (some (wrap64 ((wrap64 (Int.tdiv a0 64)) + (wrap64 (Int.tdiv (wrap64 ((wrap64 ((Int.tmod a0 64) + 9)) + 63)) 64)))))
set_option maxHeartbeats 8000000 in
set_option maxRecDepth 100000 in
theorem annalsref01_Blocks.calls (a0 : Int) (r : Int) (w : World) (h : annalsref01_Blocks.f a0 = some r) :
    Calls Tryd.prog 111 #[.int .i64 a0] w fun e w' => e = .returned (.int .i64 r) ∧ Drawn0 w w' := by
  have H : (if a0 < 0 then (some (((0 : Int) / 64) + (((((0 : Int) % 64) + 9) + 63) / 64))) else (some (wrap64 ((wrap64 (Int.tdiv a0 64)) + (wrap64 (Int.tdiv (wrap64 ((wrap64 ((Int.tmod a0 64) + 9)) + 63)) 64)))))) = some r := h
  clear h
  by_cases c2 : a0 < 0
  · rw [if_pos c2] at H
    have c2b0 : decide (a0 < 0) = true := decide_eq_true c2
    clear c2
    obtain rfl := Option.some.inj H
    go_enter Tryd.func111, Tryd.ntmps111
    go_wp2
    go_ret
    exact ⟨by first | rfl | (simp; done) | (simp [*]; done), by repeat (first | exact Drawn0.refl _ | apply Drawn0.step)⟩
  · rw [if_neg c2] at H
    have c2b0 : decide (a0 < 0) = false := decide_eq_false c2
    clear c2
    obtain rfl := Option.some.inj H
    go_enter Tryd.func111, Tryd.ntmps111
    go_wp2
    go_ret
    exact ⟨by first | rfl | (simp; done) | (simp [*]; done), by repeat (first | exact Drawn0.refl _ | apply Drawn0.step)⟩
end Go.Proofs.YtdeneoknjeegbaaDoor.P
end
