/- Lemmas of this claim, part 19. -/
import Derived.Test.YteamljekjncbfaaDoorPartSeekOne17
import Derived.Test.YteamljekjncbfaaDoorPartSeekOne18
import Derived.Outline
import Derived.WalkSpells
import Derived.WalkLawsBesides
section
set_option linter.unusedVariables false
set_option linter.unusedSimpArgs false
namespace Go.Proofs.YteamljekjncbfaaDoor.P
open Go.RowKit Go.Proofs.YteamljekjncbfaaDoor.Pure Go.Proofs.YteamljekjncbfaaDoorW.PrintWords Go.Proofs.YteamljekjncbfaaDoorW.PrintLast Go.Proofs.YteamljekjncbfaaDoorW.PrintMore
def SeekPost (o : Option Rec) (w : World) (e : Ending) (w' : World) : Prop :=
  ∃ p : Rows6, e = .returned (.tuple #[recAgg (handed o).1 p, .int .i64 (errOf o)]) ∧ RecC w' p (handed o).1 ∧ Below w.heap.size w w'
def rd_RR (xs : List (List Rec)) (i : Int) : List Rec := xs.getD i.toNat ([] : List Rec)
theorem at_RR {w : World} {A : Option Addr} {n : Nat} {xs : List (List Rec)} (h : Kd.C (Kd.slice 40 k40) w A n xs) (i : Int) (h0 : 0 ≤ i) (h1 : i < n) : ∃ ad A0 c0, A = some ad ∧ w.cell? (ad.add i.toNat) = some (.slice A0 (rd_RR xs i).length c0) ∧ (rd_RR xs i).length ≤ c0 ∧ Kd.C k40 w A0 (rd_RR xs i).length (rd_RR xs i) := by
  obtain ⟨ad, c, e, _, hK, hc0⟩ := Kd.C_get h ([] : List Rec) i h0 h1
  have hc : ∀ j u, c[j]? = some u → w.cell? (ad.add (i.toNat * 1 + j)) = some u := hc0
  obtain ⟨A0, c0, rfl, l0, g0⟩ := hK
  exact ⟨ad, A0, c0, e, by have hq := hc 0 _ rfl; rwa [Nat.mul_one, Nat.add_zero] at hq, l0, g0⟩
theorem rd_RR_at (xs : List (List Rec)) (i : Nat) (h : i < xs.length) : rd_RR xs (i : Int) = xs[i] := by
  unfold rd_RR
  rw [Int.toNat_natCast, List.getD_eq_getElem?_getD, List.getElem?_eq_getElem h]
  rfl
theorem seek_no {w W : World} {g : Nat} (h8 : RecB W g z40 z6) (hb : Below w.heap.size w W) (hg : w.heap.size ≤ g) {o : Option Rec} (ho : o = none) :
    RecB (put6 W g (.int .i64 0) (.int .i64 0) (.slice none 0 0) (.int .i64 0) (.slice none 0 0) (.slice none 0 0)) g z40 z6 ∧ SeekPost o w (.returned (.tuple #[recAgg z40 z6, .int .i64 95])) (put6 W g (.int .i64 0) (.int .i64 0) (.slice none 0 0) (.int .i64 0) (.slice none 0 0) (.slice none 0 0)) := by
  subst ho
  exact ⟨put6_rec h8 z40 z6, z6, rfl, RecC.zero _, put6_below hb hg _ _ _ _ _ _⟩
set_option maxRecDepth 100000 in
theorem results_seek (W : World) (g : Nat) (x : Rec) (p : Rows6) (b : Int) (h : RecB W g x p) (tm : Array Value) (h8 : tm[8]?.getD undef = .pointer (some ⟨g, 0, none⟩)) (h9 : tm[9]?.getD undef = .int .i64 b) : (results Tryd.f49 tm).run Tryd.prog W = .ok (.tuple #[recAgg x p, .int .i64 b]) W := by
  obtain ⟨c0, c1, c2, c3, c4, c5⟩ := h.cells
  simp [results, Tryd.results49, go_sem, h8, h9, c0, c1, c2, c3, c4, c5, recAgg]
theorem RecB.keep {w0 w w1 : World} {g s : Nat} {x : Rec} {p : Rows6} {a b : Int} (h : RecB w g x p) (hI : IsS112 w0 w s a b) (hk : KeepBut w w1 s none) : RecB w1 g x p :=
  hk.blk h (Ne.symm (hI.ne_blk h (by decide))) (by simp)
theorem RecR.keep {base : Nat} {w0 w w1 : World} {s : Nat} {x : Rec} {p : Rows6} {a b : Int} (h : RecR base w p x) (hI : IsS112 w0 w s a b) (hk : KeepBut w w1 s none) : RecR base w1 p x :=
  ⟨Kd.R_mono (Kd.R_keep (Kd.R_types h.1 hI.1 (by decide)) hk (fun _ hk => hk.2)) (fun _ _ => trivial), Kd.R_mono (Kd.R_keep (Kd.R_types h.2.1 hI.1 (by decide)) hk (fun _ hk => hk.2)) (fun _ _ => trivial), Kd.R_mono (Kd.R_keep (Kd.R_types h.2.2 hI.1 (by decide)) hk (fun _ hk => hk.2)) (fun _ _ => trivial)⟩
theorem IsS_put6 {w0 w : World} {g s : Nat} {x : Rec} {p : Rows6} {a b : Int} (hI : IsS112 w0 w s a b) (h : RecB w g x p) (v0 v1 v2 v3 v4 v5 : Value) : IsS112 w0 (put6 w g v0 v1 v2 v3 v4 v5) s a b := by
  have hne : s ≠ g := hI.ne_blk h (by decide)
  exact ⟨(put6_same hne v0 v1 v2 v3 v4 v5).trans hI.1, hI.2⟩
theorem next_f (lo hi : Int) : seek_search_next.f lo hi = some (ckAt lo hi, decide (lo < hi), lo, hi) := rfl
theorem follow_x (size : Int) (x0 : Rec) (p0 : Rows6) (Aw : Option Addr) (cw : Nat) (way : List Rec) (t : Int) (w W : World) (hb : Below w.heap.size w W) (h0 : RecC w p0 x0) (hw : Kd.C k40 w Aw way.length way)
    (hs : -9223372036854775808 ≤ size ∧ size < 9223372036854775808) (ho : RecOk x0) (hway : ∀ r ∈ way, RecOk r) (hGT : GlobT w) (hGS : GlobS w) (X : Rec) (B : Bool) (hX : X = (handed (followR size x0 way t)).1) (hB : B = (handed (followR size x0 way t)).2) :
    Calls Tryd.prog 30 #[.int .i64 size, .agg #[.int .i64 x0.f0, .int .i64 x0.f1, .slice p0.A2 x0.f2.length p0.c2, .int .i64 x0.f3, .slice p0.A4 x0.f4.length p0.c4, .slice p0.A5 x0.f5.length p0.c5], .slice Aw way.length cw, .int .i64 t] W
      fun e w' => ∃ p : Rows6, e = .returned (.tuple #[.agg #[.int .i64 X.f0, .int .i64 X.f1, .slice p.A2 X.f2.length p.c2, .int .i64 X.f3, .slice p.A4 X.f4.length p.c4, .slice p.A5 X.f5.length p.c5], .bool B]) ∧ RecR w.heap.size w' p X ∧ Below W.heap.size W w' := by
  refine (follow_callsS size x0 p0 Aw cw way t W (h0.below hb) (Kd.C_below hw hb) hs ho hway (GlobT.of hGT hb) (GlobS.of hGS hb)).mono ?_
  rintro e w' hpost
  obtain ⟨p, rfl, hR, hb'⟩ := hpost
  rw [← hX] at hR
  refine ⟨p, ?_, hR.lower hb.size, hb'⟩
  rw [← hX, ← hB]
  rfl
def seek_T3 : Bool × List (List Nat × List Nat) := (true, [([], []), ([], []), ([], []), ([2], [2]), ([3], [3]), ([0, 1, 4], [0, 1, 4]), ([5], [5]), ([6], [6]), ([6], [6]), ([], []), ([9, 7, 5, 0, 1, 2, 3, 4, 5, 6, 7, 9], [7, 9]), ([8, 10, 0, 1, 2, 3, 4, 5, 6, 7, 8, 9, 10], [8])])
def seek_B3 : List Nat := [0, 0, 0, 4, 12, 31, 63, 127, 127, 0, 767, 2047]
theorem seek_tab3 : rtab .any (opsOf Tryd.f49 3) = seek_T3 := by kernel_rfl
theorem seek_bits3 : waitsOk seek_T3.2 seek_B3 = true := by kernel_rfl
set_option maxHeartbeats 8000000 in
set_option maxRecDepth 100000 in
theorem seek_calls (size : Int) (x0 : Rec) (p0 : Rows6) (As : Option Addr) (cs : Nat) (seen : List (List Rec)) (t : Int) (w : World) (h0 : RecC w p0 x0) (hw : Kd.C (Kd.slice 40 k40) w As seen.length seen) (hcs : seen.length ≤ cs)
    (hs : -9223372036854775808 ≤ size ∧ size < 9223372036854775808) (ho : RecOk x0) (hseen : ∀ l ∈ seen, ∀ r ∈ l, RecOk r) (hGT : GlobT w) (hGS : GlobS w) :
    Calls Tryd.prog 49 #[.int .i64 size, .agg #[.int .i64 x0.f0, .int .i64 x0.f1, .slice p0.A2 x0.f2.length p0.c2, .int .i64 x0.f3, .slice p0.A4 x0.f4.length p0.c4, .slice p0.A5 x0.f5.length p0.c5], .slice As seen.length cs, .int .i64 t] w (SeekPost (seekR ckAt size x0 seen t) w) := by
  obtain ⟨n, hn⟩ : ∃ n, n = seen.length := ⟨_, rfl⟩
  rw [← hn] at hw hcs
  rw [← hn]
  have H0 := Aside0.mk h0
  have HW := Aside0.mk hw
  have HS := Aside0.mk hs
  have HO := Aside0.mk ho
  have HSEEN := Aside0.mk hseen
  have HGT := Aside0.mk hGT
  have HGS := Aside0.mk hGS
  have HN := Aside0.mk hn
  have hnm := hw.2.1
  have HNM := Aside0.mk hnm
  have HCS := Aside0.mk hcs
  clear h0 hw hs ho hseen hGT hGS hnm hn hcs
  go_enter Tryd.func49, Tryd.ntmps49
  go_wp2_with fail
  obtain ⟨W1, hW1⟩ : ∃ W1, W1 = (w.alloc (.cells (recL x0 p0).toArray 40)).alloc (.cells (recL z40 z6).toArray 40) := ⟨_, rfl⟩
  have hB1 : Below w.heap.size w W1 := by rw [hW1]; exact below_alloc (below_alloc (Below.refl _ _) _) _
  have h5 : RecB W1 w.heap.size x0 p0 := by
    rw [hW1]
    exact (recB_new w x0 p0).below (below_alloc (Below.refl _ _) _)
  have h8 : RecB W1 (w.heap.size + 1) z40 z6 := by
    rw [hW1]
    have := recB_new (w.alloc (.cells (recL x0 p0).toArray 40)) z40 z6
    simpa using this
  change Calls _ _ _ ((w.alloc (.cells (recL x0 p0).toArray 40)).alloc (.cells (recL z40 z6).toArray 40)) _
  rw [← hW1]
  have HB1 := Aside0.mk hB1
  have H5 := Aside0.mk h5
  have H8 := Aside0.mk h8
  have hC1 := H0.out.below hB1
  clear hW1 hB1 h5 h8
  refine (record_Can.calls 200 size x0.f0 x0.f1 (fun k => k < W1.heap.size) p0.A2 p0.c2 x0.f2 x0.f3 (fun k => k < W1.heap.size) p0.A4 p0.c4 x0.f4 p0.A5 p0.c5 x0.f5 (decide (CanR size x0)) W1 (Kd.V_mk hC1.l2 (Kd.C_F (Kd.heap_int .u8) hC1.g2)) (Kd.V_mk hC1.l4 (Kd.C_F (Kd.heap_int .u8) hC1.g4)) hC1.g5 hC1.l5 (GlobT.of HGT.out HB1.out) (can_f size x0 HS.out HO.out.e1 200 (by decide))).mono ?_
  rintro e w2 ⟨rfl, hB2⟩
  have HB2 := Aside0.mk (HB1.out.trans (hB2.mono HB1.out.size))
  replace H5 := Aside0.mk (H5.out.below hB2)
  replace H8 := Aside0.mk (H8.out.below hB2)
  have HC2 := Aside0.mk (hC1.below hB2)
  clear hB2 hC1 HB1
  obtain ⟨q, hq⟩ : ∃ q, q = w.heap.size + 1 := ⟨_, rfl⟩
  rw [← hq] at H8
  rw [← hq]
  have HQ := Aside0.mk (show w.heap.size ≤ q by omega)
  clear hq
  obtain ⟨e0, e1, e2, e3, e4, e5⟩ := H5.out.cells
  by_cases hcan : CanR size x0
  case neg =>
    have HNO := Aside0.mk (show seekR ckAt size x0 seen t = none from by
      unfold seekR
      split
      · rfl
      · rw [show followR size x0 _ 0 = none from if_neg (fun h => hcan h.1)])
    have hd := decide_eq_false hcan
    clear hcan
    obtain ⟨f0, f1, f2, f3, f4, f5⟩ := H8.out.frozen
    obtain ⟨d0, d1, d2, d3, d4, d5⟩ := H8.out.cells
    go_wp2_with fail
    have hno := seek_no (o := seekR ckAt size x0 seen t) H8.out HB2.out HQ.out HNO.out
    exact bodyPost_ret (results_seek _ q z40 z6 95 hno.1 _ rfl rfl) rfl hno.2
  have hd := decide_eq_true hcan
  by_cases hn0 : n = 0
  · have HNO := Aside0.mk (show seekR ckAt size x0 seen t = none from by
      have := HN.out
      rw [List.eq_nil_of_length_eq_zero (l := seen) (by omega)]
      rfl)
    have hnd : ((n : Int) == 0) = true := by simp [hn0]
    clear hcan hn0
    obtain ⟨f0, f1, f2, f3, f4, f5⟩ := H8.out.frozen
    obtain ⟨d0, d1, d2, d3, d4, d5⟩ := H8.out.cells
    go_wp2_with fail
    have hno := seek_no (o := seekR ckAt size x0 seen t) H8.out HB2.out HQ.out HNO.out
    exact bodyPost_ret (results_seek _ q z40 z6 95 hno.1 _ rfl rfl) rfl hno.2
  have hnd : ((n : Int) == 0) = false := by simp [hn0]
  have hn1 : (0 : Int) < (n : Int) := by omega
  have hn3 : 0 < n := by omega
  have hn2 : decide ((0 : Int) < (n : Int)) = true := decide_eq_true hn1
  obtain ⟨ad, aw, cw, rfl, hx0, hwl, hwC⟩ := at_RR HW.out 0 (by omega) (by omega)
  obtain ⟨way0, hway0⟩ : ∃ l, l = rd_RR seen 0 := ⟨_, rfl⟩
  rw [← hway0] at hx0 hwl hwC
  replace hx0 : w.cell? ad = some (.slice aw way0.length cw) := by simpa [Addr.add] using hx0
  have HX0 := Aside0.mk hx0
  replace hx0 := (HB2.out.cell (World.block_lt_of_cell? w _ hx0)).trans hx0
  have HWAY0 := Aside0.mk (show ∀ r ∈ way0, RecOk r from fun r hr => by
    have h1 := rd_RR_at seen 0 (by have := HN.out; omega)
    exact HSEEN.out way0 (by rw [hway0]; exact h1 ▸ List.getElem_mem _) r hr)
  obtain ⟨X, hX⟩ : ∃ X, X = (handed (followR size x0 way0 0)).1 := ⟨_, rfl⟩
  obtain ⟨B, hB⟩ : ∃ B, B = (handed (followR size x0 way0 0)).2 := ⟨_, rfl⟩
  have HCALL := Aside0.mk (fun W hW => follow_x size x0 p0 aw cw way0 0 w W hW H0.out hwC HS.out HO.out HWAY0.out HGT.out HGS.out X B hX hB)
  have HSOK := Aside0.mk (show ∀ w' : World, Below w.heap.size w w' → RecB w' w.heap.size x0 p0 → w'.cell? ⟨w.heap.size, 0, none⟩ = some (.int .i64 x0.f0) ∧ w'.cell? ⟨w.heap.size, 1, none⟩ = some (.int .i64 x0.f1) ∧ w'.cell? ⟨w.heap.size, 2, none⟩ = some (.slice p0.A2 x0.f2.length p0.c2) ∧ w'.cell? ⟨w.heap.size, 3, none⟩ = some (.int .i64 x0.f3) ∧ w'.cell? ⟨w.heap.size, 4, none⟩ = some (.slice p0.A4 x0.f4.length p0.c4) ∧ w'.cell? ⟨w.heap.size, 5, none⟩ = some (.slice p0.A5 x0.f5.length p0.c5) ∧ w'.cell? ad = some (.slice aw way0.length cw) from fun w' hb h5 => by
    obtain ⟨a0, a1, a2, a3, a4, a5⟩ := h5.cells
    exact ⟨a0, a1, a2, a3, a4, a5, (hb.cell (World.block_lt_of_cell? w _ HX0.out)).trans HX0.out⟩)
  have HXB := Aside0.mk (And.intro hX hB)
  have HWL := Aside0.mk hwl
  have HWV := Aside0.mk hway0
  clear hX hB hwC hwl hway0
  go_wp2_with fail
  refine start_ (n := 12) (S := fun w' => w'.cell? ⟨w.heap.size, 0, none⟩ = some (.int .i64 x0.f0) ∧ w'.cell? ⟨w.heap.size, 1, none⟩ = some (.int .i64 x0.f1) ∧ w'.cell? ⟨w.heap.size, 2, none⟩ = some (.slice p0.A2 x0.f2.length p0.c2) ∧ w'.cell? ⟨w.heap.size, 3, none⟩ = some (.int .i64 x0.f3) ∧ w'.cell? ⟨w.heap.size, 4, none⟩ = some (.slice p0.A4 x0.f4.length p0.c4) ∧ w'.cell? ⟨w.heap.size, 5, none⟩ = some (.slice p0.A5 x0.f5.length p0.c5) ∧ w'.cell? ad = some (.slice aw way0.length cw)) (ds := []) #[false, false, false, false, false, false, false, false, false, false, false, false] (by kernel_rfl) rfl rfl ⟨e0, e1, e2, e3, e4, e5, hx0⟩ (fun hHeld => ?_); refine with_tabW seek_tab3 seek_bits3 (fun HT_ HW_ => ?_)
  have HB := Aside0.mk (show Below w.heap.size w w2.drew from below_drew HB2.out)
  have HD5 := Aside0.mk (show RecB w2.drew w.heap.size x0 p0 from H5.out)
  have HD8 := Aside0.mk (show RecB w2.drew q z40 z6 from H8.out)
  clear H5 H8 HB2 HC2 e0 e1 e2 e3 e4 e5 hx0
  have H5 := HD5
  have H8 := HD8
  clear HD5 HD8
  generalize w2.drew = w22 at HB H5 H8 hHeld ⊢
  refine pure_ (i := 0) (N := some 32) (v := ?_) (a' := ?_) #[true, false, false, false, false, false, false, false, false, false, false, false] rfl rfl (any_of HT_.out (by kernel_rfl)) (fun _ _ _ h => h) (Or.inl ⟨by rfl, ?_⟩) ?_ ?_
  rotate_left
  · intro w'
    go_simp
    with_reducible rfl
  rotate_left
  · simp only [Act.put, List.setIfInBounds_toArray, List.set_cons_zero, List.set_cons_succ, i64_w, i32_w]
    rfl
  refine pure_ (i := 2) (N := some 34) (v := ?_) (a' := ?_) #[true, false, true, false, false, false, false, false, false, false, false, false] rfl rfl (any_of HT_.out (by kernel_rfl)) (fun _ _ _ h => h) (Or.inl ⟨by rfl, ?_⟩) ?_ ?_
  rotate_left
  · intro w'
    go_simp
    with_reducible rfl
  rotate_left
  · simp only [Act.put, List.setIfInBounds_toArray, List.set_cons_zero, List.set_cons_succ, i64_w, i32_w]
    rfl
  refine pure_ (i := 3) (N := some 35) (v := ?_) (a' := ?_) #[true, false, true, true, false, false, false, false, false, false, false, false] rfl rfl (any_of HT_.out (by kernel_rfl)) (fun _ _ _ h => h) (Or.inl ⟨by rfl, ?_⟩) ?_ ?_
  rotate_left
  · intro w'
    go_simp
    with_reducible rfl
  rotate_left
  · simp only [Act.put, List.setIfInBounds_toArray, List.set_cons_zero, List.set_cons_succ, i64_w, i32_w]
    rfl
  refine take_ (i := 1) (N := some 33) (v := ?_) (a' := ?_) #[true, true, true, true, false, false, false, false, false, false, false, false] rfl rfl (take_ofW HT_.out HW_.out (by kernel_rfl)) (fun _ _ _ h => h) (Or.inl ⟨by rfl, ?_⟩) hHeld ?_ ?_
  rotate_left
  · rintro w' ⟨s0, s1, s2, s3, s4, s5, s6⟩
    go_simp
    with_reducible rfl
  rotate_left
  · simp only [Act.put, List.setIfInBounds_toArray, List.set_cons_zero, List.set_cons_succ, i64_w, i32_w]
    rfl
  refine take_ (i := 4) (N := some 36) (v := ?_) (a' := ?_) #[true, true, true, true, true, false, false, false, false, false, false, false] rfl rfl (take_ofW HT_.out HW_.out (by kernel_rfl)) (fun _ _ _ h => h) (Or.inl ⟨by rfl, ?_⟩) hHeld ?_ ?_
  rotate_left
  · rintro w' ⟨s0, s1, s2, s3, s4, s5, s6⟩
    go_simp
    with_reducible rfl
  rotate_left
  · simp only [Act.put, List.setIfInBounds_toArray, List.set_cons_zero, List.set_cons_succ, i64_w, i32_w]
    rfl
  refine join_ (σ := Rows6 × Nat) 2 #[true, true, true, true, true, true, true, true, true, true, false, false] (fun s_ => [(37, .tuple #[.agg #[.int .i64 X.f0, .int .i64 X.f1, .slice s_.1.A2 X.f2.length s_.1.c2, .int .i64 X.f3, .slice s_.1.A4 X.f4.length s_.1.c4, .slice s_.1.A5 X.f5.length s_.1.c5], .bool B]), (10, .pointer (some ⟨s_.2, 0, none⟩)), (31, .tuple #[.agg #[.int .i64 X.f0, .int .i64 X.f1, .slice s_.1.A2 X.f2.length s_.1.c2, .int .i64 X.f3, .slice s_.1.A4 X.f4.length s_.1.c4, .slice s_.1.A5 X.f5.length s_.1.c5], .bool B]), (38, .agg #[.int .i64 X.f0, .int .i64 X.f1, .slice s_.1.A2 X.f2.length s_.1.c2, .int .i64 X.f3, .slice s_.1.A4 X.f4.length s_.1.c4, .slice s_.1.A5 X.f5.length s_.1.c5]), (39, .bool B)]) (fun s_ w' => (w'.cell? ⟨w.heap.size, 0, none⟩ = some (.int .i64 x0.f0) ∧ w'.cell? ⟨w.heap.size, 1, none⟩ = some (.int .i64 x0.f1) ∧ w'.cell? ⟨w.heap.size, 2, none⟩ = some (.slice p0.A2 x0.f2.length p0.c2) ∧ w'.cell? ⟨w.heap.size, 3, none⟩ = some (.int .i64 x0.f3) ∧ w'.cell? ⟨w.heap.size, 4, none⟩ = some (.slice p0.A4 x0.f4.length p0.c4) ∧ w'.cell? ⟨w.heap.size, 5, none⟩ = some (.slice p0.A5 x0.f5.length p0.c5) ∧ w'.cell? ad = some (.slice aw way0.length cw)) ∧ RecR w.heap.size w' s_.1 X ∧ RecB w' w.heap.size x0 p0 ∧ RecB w' q z40 z6 ∧ RecB w' s_.2 z40 z6 ∧ Below w.heap.size w w' ∧ w.heap.size ≤ s_.2 ∧ s_.2 ≠ w.heap.size ∧ s_.2 ≠ q) ?_ ?_
  rotate_left
  · intro hCont
    refine two_ (i := 5) (j := 9) (Ni := some 37) (Nj := some 10) #[true, true, true, true, true, true, false, false, false, false, false, false] #[true, true, true, true, true, false, false, false, false, true, false, false] rfl rfl rfl rfl (two_of HT_.out (by kernel_rfl)) (by decide) (by decide) (fun K hK => ?_) (fun K hK => ?_)
    · skip
      refine goes_ Tryd.func30 (by kernel_rfl) rfl #[.int .i64 size, .agg #[.int .i64 x0.f0, .int .i64 x0.f1, .slice p0.A2 x0.f2.length p0.c2, .int .i64 x0.f3, .slice p0.A4 x0.f4.length p0.c4, .slice p0.A5 x0.f5.length p0.c5], .slice aw way0.length cw, .int .i64 0] (by rfl) rfl rfl (by (try simp only [List.map_toArray, List.map_cons, List.map_nil]); first | done | rfl) ?_
      with_reducible refine (HCALL.out _ HB.out).mono ?_
      rintro e w23 ⟨p3, rfl, hR3, hb⟩
      refine ⟨_, rfl, ?_⟩
      have HR := Aside0.mk hR3
      replace H5 := Aside0.mk (H5.out.below hb)
      replace H8 := Aside0.mk (H8.out.below hb)
      replace HB := Aside0.mk (below_step HB.out hb)
      refine hK.out _ _ (HSOK.out _ HB.out H5.out) (fun hHeld => ?_)
      clear hK K
      refine norm_ (a' := ?_) ?_ ?_
      rotate_left
      · show Act.put _ (some 37) _ = _
        simp only [Act.put, List.setIfInBounds_toArray, List.set_cons_zero, List.set_cons_succ, i64_w, i32_w]
        rfl
      refine pure_ (i := 6) (N := some 31) (v := ?_) (a' := ?_) #[true, true, true, true, true, true, true, false, false, false, false, false] rfl rfl (any_of HT_.out (by kernel_rfl)) (fun _ _ _ h => h) (Or.inl ⟨by rfl, ?_⟩) ?_ ?_
      rotate_left
      · intro w'
        go_simp
        with_reducible rfl
      rotate_left
      · simp only [Act.put, List.setIfInBounds_toArray, List.set_cons_zero, List.set_cons_succ, i64_w, i32_w]
        rfl
      refine pure_ (i := 7) (N := some 38) (v := ?_) (a' := ?_) #[true, true, true, true, true, true, true, true, false, false, false, false] rfl rfl (any_of HT_.out (by kernel_rfl)) (fun _ _ _ h => h) (Or.inl ⟨by rfl, ?_⟩) ?_ ?_
      rotate_left
      · intro w'
        go_simp
        with_reducible rfl
      rotate_left
      · simp only [Act.put, List.setIfInBounds_toArray, List.set_cons_zero, List.set_cons_succ, i64_w, i32_w]
        rfl
      refine pure_ (i := 8) (N := some 39) (v := ?_) (a' := ?_) #[true, true, true, true, true, true, true, true, true, false, false, false] rfl rfl (any_of HT_.out (by kernel_rfl)) (fun _ _ _ h => h) (Or.inl ⟨by rfl, ?_⟩) ?_ ?_
      rotate_left
      · intro w'
        go_simp
        with_reducible rfl
      rotate_left
      · simp only [Act.put, List.setIfInBounds_toArray, List.set_cons_zero, List.set_cons_succ, i64_w, i32_w]
        rfl
      refine one_ (i := 9) (N := some 10) #[true, true, true, true, true, true, true, true, true, true, false, false] rfl rfl (one_of HT_.out (by kernel_rfl)) (by decide) (fun K hK => ?_)
      refine box_step ?hg (N := 10) ?hd (cs := #[.int .i64 0, .int .i64 0, .slice none 0 0, .int .i64 0, .slice none 0 0, .slice none 0 0]) (t := 40) ?hr ?_; (case hd => rfl); (case hg => rfl); (case hr => first | (go_simp; done) | (go_simp; rfl))
      intro g hg w24 hbox hb
      have HGE := Aside0.mk (show w.heap.size ≤ g ∧ g ≠ w.heap.size ∧ g ≠ q from by have := H5.out.lt; have := H8.out.lt; have := HB.out.size; omega)
      have HG := Aside0.mk (show RecB w24 g z40 z6 from hbox)
      replace H5 := Aside0.mk (H5.out.below hb)
      replace H8 := Aside0.mk (H8.out.below hb)
      replace HR := Aside0.mk (RecR.below HR.out hb)
      replace HB := Aside0.mk (below_step HB.out hb)
      refine hK.out _ _ (HSOK.out _ HB.out H5.out) (fun hHeld => ?_)
      clear hK K
      refine norm_ (a' := ?_) ?_ ?_
      rotate_left
      · show Act.put _ (some 10) _ = _
        simp only [Act.put, List.setIfInBounds_toArray, List.set_cons_zero, List.set_cons_succ, i64_w, i32_w]
        rfl
      exact norm_ (by simp only [putAll, Act.put, List.setIfInBounds_toArray, List.set_cons_zero, List.set_cons_succ]) (hCont (p3, g) _ ⟨hHeld, HR.out, H5.out, H8.out, HG.out, HB.out, HGE.out⟩)
    · skip
      refine box_step ?hg (N := 10) ?hd (cs := #[.int .i64 0, .int .i64 0, .slice none 0 0, .int .i64 0, .slice none 0 0, .slice none 0 0]) (t := 40) ?hr ?_; (case hd => rfl); (case hg => rfl); (case hr => first | (go_simp; done) | (go_simp; rfl))
      intro g hg w24 hbox hb
      have HGE := Aside0.mk (show w.heap.size ≤ g ∧ g ≠ w.heap.size ∧ g ≠ q from by have := H5.out.lt; have := H8.out.lt; have := HB.out.size; omega)
      have HG := Aside0.mk (show RecB w24 g z40 z6 from hbox)
      replace H5 := Aside0.mk (H5.out.below hb)
      replace H8 := Aside0.mk (H8.out.below hb)
      replace HB := Aside0.mk (below_step HB.out hb)
      refine hK.out _ _ (HSOK.out _ HB.out H5.out) (fun hHeld => ?_)
      clear hK K
      refine norm_ (a' := ?_) ?_ ?_
      rotate_left
      · show Act.put _ (some 10) _ = _
        simp only [Act.put, List.setIfInBounds_toArray, List.set_cons_zero, List.set_cons_succ, i64_w, i32_w]
        rfl
      refine one_ (i := 5) (N := some 37) #[true, true, true, true, true, true, false, false, false, true, false, false] rfl rfl (one_of HT_.out (by kernel_rfl)) (by decide) (fun K hK => ?_)
      refine goes_ Tryd.func30 (by kernel_rfl) rfl #[.int .i64 size, .agg #[.int .i64 x0.f0, .int .i64 x0.f1, .slice p0.A2 x0.f2.length p0.c2, .int .i64 x0.f3, .slice p0.A4 x0.f4.length p0.c4, .slice p0.A5 x0.f5.length p0.c5], .slice aw way0.length cw, .int .i64 0] (by rfl) rfl rfl (by (try simp only [List.map_toArray, List.map_cons, List.map_nil]); first | done | rfl) ?_
      with_reducible refine (HCALL.out _ HB.out).mono ?_
      rintro e w23 ⟨p3, rfl, hR3, hb⟩
      refine ⟨_, rfl, ?_⟩
      have HR := Aside0.mk hR3
      replace H5 := Aside0.mk (H5.out.below hb)
      replace H8 := Aside0.mk (H8.out.below hb)
      replace HG := Aside0.mk (HG.out.below hb)
      replace HB := Aside0.mk (below_step HB.out hb)
      refine hK.out _ _ (HSOK.out _ HB.out H5.out) (fun hHeld => ?_)
      clear hK K
      refine norm_ (a' := ?_) ?_ ?_
      rotate_left
      · show Act.put _ (some 37) _ = _
        simp only [Act.put, List.setIfInBounds_toArray, List.set_cons_zero, List.set_cons_succ, i64_w, i32_w]
        rfl
      refine pure_ (i := 6) (N := some 31) (v := ?_) (a' := ?_) #[true, true, true, true, true, true, true, false, false, true, false, false] rfl rfl (any_of HT_.out (by kernel_rfl)) (fun _ _ _ h => h) (Or.inl ⟨by rfl, ?_⟩) ?_ ?_
      rotate_left
      · intro w'
        go_simp
        with_reducible rfl
      rotate_left
      · simp only [Act.put, List.setIfInBounds_toArray, List.set_cons_zero, List.set_cons_succ, i64_w, i32_w]
        rfl
      refine pure_ (i := 7) (N := some 38) (v := ?_) (a' := ?_) #[true, true, true, true, true, true, true, true, false, true, false, false] rfl rfl (any_of HT_.out (by kernel_rfl)) (fun _ _ _ h => h) (Or.inl ⟨by rfl, ?_⟩) ?_ ?_
      rotate_left
      · intro w'
        go_simp
        with_reducible rfl
      rotate_left
      · simp only [Act.put, List.setIfInBounds_toArray, List.set_cons_zero, List.set_cons_succ, i64_w, i32_w]
        rfl
      refine pure_ (i := 8) (N := some 39) (v := ?_) (a' := ?_) #[true, true, true, true, true, true, true, true, true, true, false, false] rfl rfl (any_of HT_.out (by kernel_rfl)) (fun _ _ _ h => h) (Or.inl ⟨by rfl, ?_⟩) ?_ ?_
      rotate_left
      · intro w'
        go_simp
        with_reducible rfl
      rotate_left
      · simp only [Act.put, List.setIfInBounds_toArray, List.set_cons_zero, List.set_cons_succ, i64_w, i32_w]
        rfl
      exact norm_ (by simp only [putAll, Act.put, List.setIfInBounds_toArray, List.set_cons_zero, List.set_cons_succ]) (hCont (p3, g) _ ⟨hHeld, HR.out, H5.out, H8.out, HG.out, HB.out, HGE.out⟩)
  rintro ⟨p3, g⟩ w4 ⟨hHeld, hR, h5, h8, hg, hb, hge, hn5, hn8⟩
  refine norm_ (a' := ?_) ?_ ?_
  rotate_left
  · simp only [putAll, Act.put, List.setIfInBounds_toArray, List.set_cons_zero, List.set_cons_succ]
    rfl
  refine one_ (i := 10) (N := none) #[true, true, true, true, true, true, true, true, true, true, true, false] rfl rfl (one_of HT_.out (by kernel_rfl)) (by decide) (fun K hK => ?_)
  obtain ⟨w5, hw5⟩ : ∃ w5, w5 = put6 w4 g (.int .i64 X.f0) (.int .i64 X.f1) (.slice p3.A2 X.f2.length p3.c2) (.int .i64 X.f3) (.slice p3.A4 X.f4.length p3.c4) (.slice p3.A5 X.f5.length p3.c5) := ⟨_, rfl⟩
  have HD5 := Aside0.mk (show RecB w5 w.heap.size x0 p0 from by rw [hw5]; exact put6_far (Ne.symm hn5) h5 _ _ _ _ _ _)
  have HD8 := Aside0.mk (show RecB w5 q z40 z6 from by rw [hw5]; exact put6_far (Ne.symm hn8) h8 _ _ _ _ _ _)
  have HG := Aside0.mk (show RecB w5 g X p3 from by rw [hw5]; exact put6_rec hg X p3)
  have HB5 := Aside0.mk (show Below w.heap.size w w5 from by rw [hw5]; exact put6_below hb hge _ _ _ _ _ _)
  have HR := Aside0.mk (show RecR w.heap.size w5 p3 X from by rw [hw5]; exact RecR.put6 hR hg _ _ _ _ _ _)
  have HGE := Aside0.mk (And.intro hge (And.intro hn5 hn8))
  obtain ⟨c0, c1, c2, c3, c4, c5⟩ := hg.cells
  obtain ⟨f0, f1, f2, f3, f4, f5⟩ := hg.frozen
  refine skip_ (w1 := w5) (by rfl) rfl ?_ ?_
  · go_simp
    first | rfl | (rw [hw5]; rfl) | (subst hw5; rfl)
  clear c0 c1 c2 c3 c4 c5 f0 f1 f2 f3 f4 f5 hw5 h5 h8 hg hb hge hn5 hn8 hR hHeld H5 H8 HB
  refine hK.out _ _ (HSOK.out _ HB5.out HD5.out) (fun hHeld => ?_)
  clear hK K hHeld
  refine pure_ (i := 11) (N := some 11) (v := ?_) (a' := ?_) #[true, true, true, true, true, true, true, true, true, true, true, true] rfl rfl (any_of HT_.out (by kernel_rfl)) (fun _ _ _ h => h) (Or.inl ⟨by rfl, ?_⟩) ?_ ?_
  rotate_left
  · intro w'
    go_simp
    with_reducible rfl
  rotate_left
  · simp only [Act.put, List.setIfInBounds_toArray, List.set_cons_zero, List.set_cons_succ, i64_w, i32_w]
    rfl
  refine done_ (done_of HT_.out (by kernel_rfl)) ?_
  clear HT_ HW_
  obtain ⟨rest, HRS⟩ : ∃ rest, Aside0 (seen = way0 :: rest) := by
    have h1 := HN.out
    have h2 := HWV.out
    cases seen with
    | nil => exact absurd h1 hn0
    | cons a l => exact ⟨l, ⟨by rw [h2]; rfl⟩⟩
  cases hfo : followR size x0 way0 0 with
  | none =>
    have HNO := Aside0.mk (show seekR ckAt size x0 seen t = none by rw [HRS.out]; simp only [seekR]; rw [hfo])
    have hX := HXB.out.1
    have hB := HXB.out.2
    rw [hfo] at hX hB
    obtain rfl : X = z40 := hX
    obtain rfl : B = false := hB
    clear hfo
    obtain ⟨f0, f1, f2, f3, f4, f5⟩ := HD8.out.frozen
    obtain ⟨d0, d1, d2, d3, d4, d5⟩ := HD8.out.cells
    go_wp2_with fail
    have hno := seek_no (o := seekR ckAt size x0 seen t) HD8.out HB5.out HQ.out HNO.out
    exact bodyPost_ret (results_seek _ q z40 z6 95 hno.1 _ rfl rfl) rfl hno.2
  | some r =>
    have hX := HXB.out.1
    have hB := HXB.out.2
    rw [hfo] at hX hB
    have hX' : X = r := hX
    clear hX
    obtain rfl : B = true := hB
    have HFO := Aside0.mk (show followR size x0 way0 0 = some X by rw [hX']; exact hfo)
    clear hfo hX' r HXB HCALL HSOK
    obtain ⟨c0, c1, c2, c3, c4, c5⟩ := HG.out.cells
    by_cases hgt : X.f1 > t
    · have HNO := Aside0.mk (show seekR ckAt size x0 seen t = none by rw [HRS.out]; simp only [seekR]; rw [HFO.out]; exact if_neg (by omega))
      have hdg := decide_eq_true hgt
      clear hgt
      obtain ⟨f0, f1, f2, f3, f4, f5⟩ := HD8.out.frozen
      obtain ⟨d0, d1, d2, d3, d4, d5⟩ := HD8.out.cells
      go_wp2_with fail
      have hno := seek_no (o := seekR ckAt size x0 seen t) HD8.out HB5.out HQ.out HNO.out
      exact bodyPost_ret (results_seek _ q z40 z6 95 hno.1 _ rfl rfl) rfl hno.2
    have HSK := Aside0.mk (show seekR ckAt size x0 seen t = seekS ckAt size x0 t 0 x0.f0 X rest by rw [HRS.out]; simp only [seekR]; rw [HFO.out]; exact if_pos (by omega))
    have hdg := decide_eq_false hgt
    clear hgt
    obtain ⟨e0, e1, e2, e3, e4, e5⟩ := HD5.out.cells
    go_wp2_with fail
    all_goals
      obtain ⟨AR, hAR, hCR⟩ : ∃ AR : Option Addr, AR = (if cs = 1 then some ad else some ⟨ad.block, ad.off + 1, none⟩) ∧ Kd.C (Kd.slice 40 k40) w AR rest.length rest := by
        refine ⟨_, rfl, ?_⟩
        have h1 : Kd.C (Kd.slice 40 k40) w (some ad) seen.length seen := by rw [← HN.out]; exact HW.out
        have h2 := Kd.C_drop (m := 1) (c := cs) h1 (by have := HN.out; omega) (by have := HN.out; have := HCS.out; omega)
        rw [HRS.out] at h2
        have h3 : (if cs = 1 then some ad else (some ad).map (·.add (1 * (Kd.slice 40 k40).sz))) = (if cs = 1 then some ad else some (⟨ad.block, ad.off + 1, none⟩ : Addr)) := by
          split
          · rfl
          · simp [Addr.add, Kd.slice]
        rw [h3] at h2
        exact h2
      rename_i h
      first | (rw [if_pos h] at hAR) | (rw [if_neg h] at hAR)
      rw [← hAR]
      have hm : rest.length = n - 1 := by
        have h1 := HN.out
        rw [HRS.out] at h1
        simp at h1
        omega
      rw [← hm]
      obtain ⟨s, hs⟩ : ∃ s, s = w5.heap.size := ⟨_, rfl⟩
      obtain ⟨w6, hw6⟩ : ∃ w6, w6 = w5.alloc (.cells #[.int .i64 0, .int .i64 x0.f0] 112) := ⟨_, rfl⟩
      rw [← hs, ← hw6]
      have hb6 : Below w5.heap.size w5 w6 := by rw [hw6]; exact below_alloc (Below.refl _ _) _
      have HI := Aside0.mk (show IsS112 w w6 s 0 x0.f0 from by rw [hw6, hs]; exact IsS112.new w w5 0 x0.f0 HB5.out)
      have HD56 := Aside0.mk (HD5.out.below hb6)
      have HD86 := Aside0.mk (HD8.out.below hb6)
      have HG6 := Aside0.mk (HG.out.below hb6)
      have HR6 := Aside0.mk (HR.out.below hb6)
      have HB6 := Aside0.mk (below_step HB5.out hb6)
      have HC := Aside0.mk hCR
      have HLM := Aside0.mk (show rest.length ≤ 9223372036854775807 from by have := HNM.out; omega)
      clear hs hw6 hb6 hCR hAR h hm HD5 HD8 HG HR HB5 e0 e1 e2 e3 e4 e5 c0 c1 c2 c3 c4 c5 hd hn0 hnd hn1 hn3 hn2 hdg hcan
      go_loopw [56] (fun v56 wr => ∃ (k : Nat) (lo hi : Int) (x : Rec) (p : Rows6), k ≤ rest.length ∧ v56 = .int .i64 (k : Int) ∧ Aside0 (RecB wr g x p) ∧ Aside0 (RecR w.heap.size wr p x) ∧ Aside0 (RecB wr q z40 z6) ∧ Aside0 (IsS112 w wr s lo hi) ∧ Aside0 (seekR ckAt size x0 seen t = seekS ckAt size x0 t lo hi x (rest.drop k)) ∧ Aside0 (RecB wr w.heap.size x0 p0) ∧ Aside0 (Below w.heap.size w wr)) (fun v56 _ => rest.length - (intOf v56).toNat)
      case atStart => exact ⟨0, 0, x0.f0, X, p3, by omega, rfl, HG6, HR6, HD86, HI, ⟨by rw [List.drop_zero]; exact HSK.out⟩, HD56, HB6⟩
      case round =>
        clear HG6 HR6 HD86 HI HSK HD56 HB6
        obtain ⟨k, lo, hi, x, p, hk, rfl, HG, HR, H8, HI, HSK, H5, HB⟩ := hrel
        by_cases hlt : k < rest.length
        · obtain ⟨ar, bw, cb, hAR2, hy0, hyl, hyC⟩ := at_RR HC.out k (by omega) (by omega)
          subst hAR2
          obtain ⟨way, hway⟩ : ∃ l, l = rd_RR rest (k : Int) := ⟨_, rfl⟩
          rw [← hway] at hy0 hyl hyC
          have hwm : way = rest[k] := hway.trans (rd_RR_at rest k hlt)
          rw [Int.toNat_natCast] at hy0
          replace hy0 := (HB.out.cell (World.block_lt_of_cell? w _ hy0)).trans hy0
          have HWAY := Aside0.mk (show ∀ r ∈ way, RecOk r from HSEEN.out way (by rw [HRS.out, hwm]; exact List.mem_cons_of_mem _ (List.getElem_mem hlt)))
          have HDR := Aside0.mk (show rest.drop k = way :: rest.drop (k + 1) by rw [hwm]; exact List.drop_eq_getElem_cons hlt)
          have hd : decide ((k : Int) < (rest.length : Int)) = true := by simp; omega
          have q1 : (k : Int) < (rest.length : Int) := by omega
          have hlm := HLM.out
          have HLT := Aside0.mk hlt
          have HYC := Aside0.mk hyC
          clear hway hwm hk hyC hyl
          go_wp2_with fail
          refine (seek_search_next.calls s lo hi (ckAt lo hi) (decide (lo < hi)) lo hi w wr HI.out HB.out (next_f lo hi)).mono ?_
          rintro e w7 ⟨rfl, hI7, hB7, hK7⟩
          replace HG := Aside0.mk (HG.out.keep HI.out hK7)
          replace HR := Aside0.mk (HR.out.keep HI.out hK7)
          replace H8 := Aside0.mk (H8.out.keep HI.out hK7)
          replace H5 := Aside0.mk (H5.out.keep HI.out hK7)
          replace HI := Aside0.mk hI7
          replace HB := Aside0.mk hB7
          clear hI7 hB7 hK7 hy0
          obtain ⟨a, ha⟩ : ∃ a, a = ckAt lo hi := ⟨_, rfl⟩
          rw [← ha]
          have HA := Aside0.mk ha
          clear ha
          by_cases hlo : lo < hi
          case neg =>
            have HNO := Aside0.mk (show seekR ckAt size x0 seen t = none by rw [HSK.out, HDR.out]; simp only [seekS]; exact if_neg hlo)
            have hdl := decide_eq_false hlo
            clear hlo
            obtain ⟨f0, f1, f2, f3, f4, f5⟩ := H8.out.frozen
            obtain ⟨d0, d1, d2, d3, d4, d5⟩ := H8.out.cells
            go_wp2_with fail
            have hno := seek_no (o := seekR ckAt size x0 seen t) H8.out HB.out HQ.out HNO.out
            exact bodyPost_ret (results_seek _ q z40 z6 95 hno.1 _ rfl rfl) rfl hno.2
          have hdl := decide_eq_true hlo
          have HLO := Aside0.mk hlo
          clear hlo
          obtain ⟨X2, hX⟩ : ∃ X, X = (handed (followR size x0 way a)).1 := ⟨_, rfl⟩
          obtain ⟨B, hB⟩ : ∃ B, B = (handed (followR size x0 way a)).2 := ⟨_, rfl⟩
          obtain ⟨e0, e1, e2, e3, e4, e5⟩ := H5.out.cells
          have HXB := Aside0.mk (And.intro hX hB)
          clear hX hB
          go_wp2_with fail
          refine (follow_x size x0 p0 bw cb way a w w7 HB.out H0.out HYC.out HS.out HO.out HWAY.out HGT.out HGS.out X2 B HXB.out.1 HXB.out.2).mono ?_
          rintro e w8 ⟨p8, rfl, hR8, hB8⟩
          replace HG := Aside0.mk (HG.out.below hB8)
          replace HR := Aside0.mk (HR.out.below hB8)
          replace H8 := Aside0.mk (H8.out.below hB8)
          replace H5 := Aside0.mk (H5.out.below hB8)
          replace HI := Aside0.mk (HI.out.below hB8)
          replace HB := Aside0.mk (below_step HB.out hB8)
          have HR8 := Aside0.mk hR8
          clear hR8 hB8 e0 e1 e2 e3 e4 e5
          obtain ⟨b, hb⟩ : ∃ b, b = w8.heap.size := ⟨_, rfl⟩
          have hgb : g < b := by have := HG.out.lt; omega
          have hqb : q < b := by have := H8.out.lt; omega
          iterate 18 (first | go_values | go_skip | go_guarded | go_step | go_upon | go_back | (simp only [Int.not_lt, Int.not_le] at *; go_simp))
          obtain ⟨w9, hw9⟩ : ∃ w9, w9 = w8.alloc (.cells (recL X2 p8).toArray 40) := ⟨_, rfl⟩
          change Oper.wp _ _ _ (w8.alloc (.cells (recL X2 p8).toArray 40)) _ _
          rw [← hw9, ← hb]
          have hb9 : Below w8.heap.size w8 w9 := by rw [hw9]; exact below_alloc (Below.refl _ _) _
          have H17 := Aside0.mk (show RecB w9 b X2 p8 from by rw [hw9, hb]; exact recB_new w8 X2 p8)
          replace HG := Aside0.mk (HG.out.below hb9)
          replace HR := Aside0.mk (HR.out.below hb9)
          replace H8 := Aside0.mk (H8.out.below hb9)
          replace H5 := Aside0.mk (H5.out.below hb9)
          replace HI := Aside0.mk (HI.out.below hb9)
          replace HB := Aside0.mk (below_step HB.out hb9)
          replace HR8 := Aside0.mk (HR8.out.below hb9)
          have HGB := Aside0.mk (And.intro hgb hqb)
          clear hw9 hb9 hb hgb hqb
          cases hfo : followR size x0 way a with
          | none =>
            have HNO := Aside0.mk (show seekR ckAt size x0 seen t = none by rw [HSK.out, HDR.out]; simp only [seekS]; rw [if_pos HLO.out, ← HA.out, hfo])
            have hX := HXB.out.1
            have hB := HXB.out.2
            rw [hfo] at hX hB
            obtain rfl : X2 = z40 := hX
            obtain rfl : B = false := hB
            clear hfo
            obtain ⟨f0, f1, f2, f3, f4, f5⟩ := H8.out.frozen
            obtain ⟨d0, d1, d2, d3, d4, d5⟩ := H8.out.cells
            go_wp2_with fail
            have hno := seek_no (o := seekR ckAt size x0 seen t) H8.out HB.out HQ.out HNO.out
            exact bodyPost_ret (results_seek _ q z40 z6 95 hno.1 _ rfl rfl) rfl hno.2
          | some r =>
            have hX := HXB.out.1
            have hB := HXB.out.2
            rw [hfo] at hX hB
            have hX' : X2 = r := hX
            clear hX
            obtain rfl : B = true := hB
            have HFO := Aside0.mk (show followR size x0 way a = some X2 by rw [hX']; exact hfo)
            clear hfo hX' r HXB
            obtain ⟨r0, r1, r2, r3, r4, r5⟩ := H17.out.cells
            by_cases hgt : X2.f1 > t
            · have hdg := decide_eq_true hgt
              have hle : decide (X2.f1 ≤ t) = false := decide_eq_false (by omega)
              have HSK2 := Aside0.mk (show seekR ckAt size x0 seen t = seekS ckAt size x0 t lo (wrap64 (a - 1)) x (rest.drop (k + 1)) by rw [HSK.out, HDR.out]; simp only [seekS]; rw [if_pos HLO.out, ← HA.out, HFO.out]; exact if_neg (by omega))
              clear hgt
              go_wp2_with fail
              refine (seek_search_told.calls s lo hi a true lo (wrap64 (a - 1)) w w9 HI.out HB.out (by unfold seek_search_told.f; simp)).mono ?_
              rintro e w10 ⟨rfl, hI10, hB10, hK10⟩
              replace HG := Aside0.mk (HG.out.keep HI.out hK10)
              replace HR := Aside0.mk (HR.out.keep HI.out hK10)
              replace HR8 := Aside0.mk (HR8.out.keep HI.out hK10)
              replace H8 := Aside0.mk (H8.out.keep HI.out hK10)
              replace H5 := Aside0.mk (H5.out.keep HI.out hK10)
              replace H17 := Aside0.mk (H17.out.keep HI.out hK10)
              replace HI := Aside0.mk hI10
              replace HB := Aside0.mk hB10
              clear hI10 hB10 hK10 r0 r1 r2 r3 r4 r5
              obtain ⟨r0, r1, r2, r3, r4, r5⟩ := H17.out.cells
              go_wp2_with fail
              have hlt := HLT.out
              go_roundw
              case measure => simp only [intOf]; omega
              case rel => exact ⟨k + 1, lo, _, x, p, by omega, by go_num, HG, HR, H8, HI, HSK2, H5, HB⟩
            · have hdg := decide_eq_false hgt
              have hle : decide (X2.f1 ≤ t) = true := decide_eq_true (by omega)
              have HSK2 := Aside0.mk (show seekR ckAt size x0 seen t = seekS ckAt size x0 t a hi X2 (rest.drop (k + 1)) by rw [HSK.out, HDR.out]; simp only [seekS]; rw [if_pos HLO.out, ← HA.out, HFO.out]; exact if_pos (by omega))
              clear hgt
              go_wp2_with fail
              refine (seek_search_told.calls s lo hi a false a hi w w9 HI.out HB.out (by unfold seek_search_told.f; simp)).mono ?_
              rintro e w10 ⟨rfl, hI10, hB10, hK10⟩
              replace HG := Aside0.mk (HG.out.keep HI.out hK10)
              replace HR := Aside0.mk (HR.out.keep HI.out hK10)
              replace HR8 := Aside0.mk (HR8.out.keep HI.out hK10)
              replace H8 := Aside0.mk (H8.out.keep HI.out hK10)
              replace H5 := Aside0.mk (H5.out.keep HI.out hK10)
              replace H17 := Aside0.mk (H17.out.keep HI.out hK10)
              replace HI := Aside0.mk hI10
              replace HB := Aside0.mk hB10
              clear hI10 hB10 hK10 r0 r1 r2 r3 r4 r5
              obtain ⟨r0, r1, r2, r3, r4, r5⟩ := H17.out.cells
              obtain ⟨f0, f1, f2, f3, f4, f5⟩ := HG.out.frozen
              obtain ⟨e0, e1, e2, e3, e4, e5⟩ := HG.out.cells
              go_wp2_with fail
              have hlt := HLT.out
              have hb11 := put6_below HB.out HGE.out.1 (.int .i64 X2.f0) (.int .i64 X2.f1) (.slice p8.A2 X2.f2.length p8.c2) (.int .i64 X2.f3) (.slice p8.A4 X2.f4.length p8.c4) (.slice p8.A5 X2.f5.length p8.c5)
              have hI11 := IsS_put6 HI.out HG.out (.int .i64 X2.f0) (.int .i64 X2.f1) (.slice p8.A2 X2.f2.length p8.c2) (.int .i64 X2.f3) (.slice p8.A4 X2.f4.length p8.c4) (.slice p8.A5 X2.f5.length p8.c5)
              have hR11 := RecR.put6 HR8.out HG.out (.int .i64 X2.f0) (.int .i64 X2.f1) (.slice p8.A2 X2.f2.length p8.c2) (.int .i64 X2.f3) (.slice p8.A4 X2.f4.length p8.c4) (.slice p8.A5 X2.f5.length p8.c5)
              go_roundw
              case measure => simp only [intOf]; omega
              case rel => exact ⟨k + 1, a, hi, X2, p8, by omega, by go_num, ⟨put6_rec HG.out X2 p8⟩, ⟨hR11⟩, ⟨put6_far (Ne.symm HGE.out.2.2) H8.out _ _ _ _ _ _⟩, ⟨hI11⟩, HSK2, ⟨put6_far (Ne.symm HGE.out.2.1) H5.out _ _ _ _ _ _⟩, ⟨hb11⟩⟩
        · obtain rfl : k = rest.length := by omega
          have HSK2 := Aside0.mk (show seekR ckAt size x0 seen t = if lo < hi then none else some x by rw [HSK.out, List.drop_length]; rfl)
          clear HSK hk hlt
          go_wp2_with fail
          refine (seek_search_next.calls s lo hi (ckAt lo hi) (decide (lo < hi)) lo hi w wr HI.out HB.out (next_f lo hi)).mono ?_
          rintro e w7 ⟨rfl, hI7, hB7, hK7⟩
          replace HG := Aside0.mk (HG.out.keep HI.out hK7)
          replace HR := Aside0.mk (HR.out.keep HI.out hK7)
          replace H8 := Aside0.mk (H8.out.keep HI.out hK7)
          replace HB := Aside0.mk hB7
          clear hI7 hB7 hK7
          obtain ⟨f0, f1, f2, f3, f4, f5⟩ := H8.out.frozen
          obtain ⟨d0, d1, d2, d3, d4, d5⟩ := H8.out.cells
          by_cases hlo : lo < hi
          · have HNO := Aside0.mk (show seekR ckAt size x0 seen t = none by rw [HSK2.out]; exact if_pos hlo)
            have hdl := decide_eq_true hlo
            clear hlo
            go_wp2_with fail
            have hno := seek_no (o := seekR ckAt size x0 seen t) H8.out HB.out HQ.out HNO.out
            exact bodyPost_ret (results_seek _ q z40 z6 95 hno.1 _ rfl rfl) rfl hno.2
          · have HYES := Aside0.mk (show seekR ckAt size x0 seen t = some x by rw [HSK2.out]; exact if_neg hlo)
            have hdl := decide_eq_false hlo
            clear hlo
            obtain ⟨e0, e1, e2, e3, e4, e5⟩ := HG.out.cells
            go_wp2_with fail
            have hfin := put6_rec H8.out x p
            refine bodyPost_ret (results_seek _ q x p 0 hfin _ rfl rfl) rfl ?_
            rw [HYES.out]
            exact ⟨p, rfl, (RecR.put6 HR.out H8.out _ _ _ _ _ _).toC, put6_below HB.out HQ.out _ _ _ _ _ _⟩
end Go.Proofs.YteamljekjncbfaaDoor.P
end
section
set_option linter.unusedVariables false
set_option linter.unusedSimpArgs false
namespace Go.Proofs.YteamljekjncbfaaDoor.P
open Go.RowKit Go.Proofs.YteamljekjncbfaaDoor.Pure Go.Proofs.YteamljekjncbfaaDoorW.PrintWords Go.Proofs.YteamljekjncbfaaDoorW.PrintLast Go.Proofs.YteamljekjncbfaaDoorW.PrintMore
end Go.Proofs.YteamljekjncbfaaDoor.P
end
section
set_option linter.unusedVariables false
set_option linter.unusedSimpArgs false
namespace Go.Proofs.YteamljekjncbfaaDoor.P
open Go.RowKit Go.Proofs.YteamljekjncbfaaDoorW.PrintWords Go.Proofs.YteamljekjncbfaaDoorW.PrintLast Go.Proofs.YteamljekjncbfaaDoorW.PrintMore
def Cap (w0 w : World) (B : Nat) (l : List Int) : Prop :=
  w0.heap.size ≤ B ∧ ∃ v, w.heap[B]? = some (.cells #[v] 23 (0, 0)) ∧ Kd.R (Kd.int .i64) 3 w w0.heap.size (fun _ => True) v l
def KeepTy (ts : List Nat) (w w' : World) : Prop :=
  ∀ (i : Nat) (cs : Array Value) (t : TypeId) (fr : Nat × Nat), w.heap[i]? = some (.cells cs t fr) → t ∉ ts → w'.heap[i]? = some (.cells cs t fr)
theorem KeepTy.refl (ts : List Nat) (w : World) : KeepTy ts w w := fun _ _ _ _ h _ => h
theorem KeepTy.trans {ts : List Nat} {w w1 w2 : World} (h : KeepTy ts w w1) (k : KeepTy ts w1 w2) : KeepTy ts w w2 :=
  fun i cs t fr hi ht => k i cs t fr (h i cs t fr hi ht) ht
theorem slice_form {α : Type} {d : Kd α} {e base : Nat} {ok : Nat → Prop} {w : World} {v : Value} {xs : List α} (h : d.R e w base ok v xs) : ∃ A n c, v = .slice A n c := by
  obtain ⟨A, c, h⟩ := Kd.R_slice h
  exact ⟨A, _, c, h⟩
set_option maxHeartbeats 800000 in
set_option maxRecDepth 100000 in
theorem probes1_calls (B : Nat) (l : List Int) (e : Int) (w0 w : World) (hC : Cap w0 w B l) (hB : Below w0.heap.size w0 w) (hl : l.length < 17592186044416) :
    Calls Tryd.prog 105 #[.int .i64 e, .pointer (some ⟨B, 0, none⟩)] w fun e' w' => e' = .returned (.tuple #[]) ∧ Cap w0 w' B (l ++ [e]) ∧ Below w0.heap.size w0 w' ∧ KeepTy [23, 3] w w' := by
  obtain ⟨hge, v, hb, hR⟩ := hC
  have hc := (blk_cell hb 0).trans rfl
  have hf := blk_frozen hb 0
  have HBk := Aside0.mk hb
  have HR := Aside0.mk hR
  have HB := Aside0.mk hB
  clear hb hR hB
  go_enter Tryd.func105, Tryd.ntmps105
  go_wp2_with ((at_builtin; go_must (refine Kd.R_append (Kd.int .i64) (w0 := w0) w0.heap.size rfl (.tmp 3) (.tmp 5) 23 3 (.int .i64 0) 8 rfl Tryd.underlying23 info3 rfl (by decide) (by omega) v l e [.int .i64 e] (fun _ => True) (fun _ => False) rfl rfl ?aP (fun _ hk => hk.elim) ?aF ?aO ?aB ?aS ?aL ?_; (case aP => exact rfl); (case aB => exact HB.out); (case aF => exact (fun _ _ => trivial)); (case aO => exact HR.out); (case aS => exact HB.out.size); (case aL => omega); intro v1 w1 hR1 hb1 hg1 hat1; obtain ⟨A1, n1, c1, e1⟩ := slice_form hR1; subst e1; have hw1 := blk_grown HBk.out hg1 (Kd.R_ne HR.out HBk.out (by decide)); have hc1 := (blk_cell hw1 0).trans rfl; have hf1 := blk_frozen hw1 0; have HW1 := Aside0.mk hw1; have HR1 := Aside0.mk hR1; have HB1 := Aside0.mk hb1; have HG1 := Aside0.mk hg1; clear hw1 hR1 hb1 hg1 hat1)))
  go_end0
  refine ⟨rfl, ⟨hge, _, blk_set HW1.out 0 _, ?_⟩, HB1.out.setCell hge _, ?_⟩
  · exact Kd.R_set HR1.out HW1.out (by decide) 0 _
  · intro i cs t fr hi ht
    have h1 := blk_grown hi HG1.out (row := v.ownBlock) (by
      intro e1
      obtain ⟨cells, hcl⟩ := own_typed (Kd.R_own HR.out).choose_spec i e1.symm
      rw [hcl] at hi
      injection hi with hi
      injection hi with _ hi
      exact ht (by simp [← hi]))
    have hne : i ≠ B := by
      rintro rfl
      rw [HBk.out] at hi
      injection hi with hi
      injection hi with _ hi
      exact ht (by simp [← hi])
    exact (Below.heap_setCell _ _ _ _ hne).trans h1
end Go.Proofs.YteamljekjncbfaaDoor.P
end
section
set_option linter.unusedVariables false
set_option linter.unusedSimpArgs false
namespace Go.Proofs.YteamljekjncbfaaDoor.P
open Go.RowKit Go.Proofs.YteamljekjncbfaaDoorW.PrintWords Go.Proofs.YteamljekjncbfaaDoorW.PrintLast Go.Proofs.YteamljekjncbfaaDoorW.PrintMore
def lookGo (ts : List Int) (t : Int) : Nat → Int → Int → List Int → List Int × Int
  | 0, low, _, acc => (acc, low)
  | k + 1, low, high, acc =>
    if low < high then
      if t < rd ts (low + (high - low + 1) / 2) then lookGo ts t k low (low + (high - low + 1) / 2 - 1) (acc ++ [low + (high - low + 1) / 2])
      else lookGo ts t k (low + (high - low + 1) / 2) high (acc ++ [low + (high - low + 1) / 2])
    else (acc, low)
def lookRun (ts : List Int) (t : Int) : List Int × Int :=
  if ts.length = 0 then ([], -1)
  else if t < rd ts 0 then ([0], -1)
  else lookGo ts t ts.length 0 (ts.length - 1) [0]
structure Look (w0 : World) (F : Nat) (caps : Array Value) (I : World → List Int → Prop) : Prop where
  enter : ∀ (args : Array Value) (W : World), (callFunc F args).run Tryd.prog W = .ok (.enter F args) W
  call : ∀ (l : List Int) (e : Int) (W : World), I W l → Below w0.heap.size w0 W → l.length < 17592186044416 →
    Calls Tryd.prog F (#[.int .i64 e] ++ caps) W fun e' W' => e' = .returned (.tuple #[]) ∧ I W' (l ++ [e]) ∧ Below w0.heap.size w0 W' ∧ KeepTy [23, 3] W W'
  alloc : ∀ (W : World) (l : List Int) (cs : Array Value), I W l → I (W.alloc (.cells cs 112)) l
  keep : ∀ (W W' : World) (l : List Int) (g : Nat) (cs : Array Value), I W l → W.heap[g]? = some (.cells cs 112 (0, 0)) → KeepBut W W' g none → I W' l
theorem IsS112.keepTy {w0 W W1 : World} {g : Nat} {f0 f1 : Int} (h : IsS112 w0 W g f0 f1) (hk : KeepTy [23, 3] W W1) : IsS112 w0 W1 g f0 f1 :=
  ⟨hk _ _ _ _ h.1 (by decide), h.2⟩
theorem next_any (g : Nat) (low high : Int) (w0 w : World) (hI : IsS112 w0 w g low high) (hB : Below w0.heap.size w0 w) (h0 : 0 ≤ low) (h1 : low ≤ high) (h2 : high < 1000000) :
    Calls Tryd.prog 83 #[.pointer (some ⟨g, 0, none⟩)] w fun e w' => e = .returned (.tuple #[.int .i64 (low + (high - low + 1) / 2), .bool (decide (low < high))]) ∧ IsS112 w0 w' g low high ∧ Below w0.heap.size w0 w' ∧ KeepBut w w' g none := by
  refine seek_search_next.calls g low high _ _ _ _ w0 w hI hB ?_
  unfold seek_search_next.f
  have e1 : wrap64 (high - low) = high - low := by unfold wrap64; omega
  have e2 : wrap64 (high - low + 1) = high - low + 1 := by unfold wrap64; omega
  have e3 : Int.tdiv (high - low + 1) 2 = (high - low + 1) / 2 := Int.tdiv_eq_ediv_of_nonneg (by omega)
  have e4 : wrap64 ((high - low + 1) / 2) = (high - low + 1) / 2 := by unfold wrap64; omega
  have e5 : wrap64 (low + (high - low + 1) / 2) = low + (high - low + 1) / 2 := by unfold wrap64; omega
  rw [e1, e2, e3, e4, e5]
theorem told_any (g : Nat) (low high at_ : Int) (b : Bool) (w0 w : World) (hI : IsS112 w0 w g low high) (hB : Below w0.heap.size w0 w) (h0 : 0 ≤ at_) (h2 : at_ < 1000000) :
    Calls Tryd.prog 84 #[.pointer (some ⟨g, 0, none⟩), .int .i64 at_, .bool b] w fun e w' => e = .returned (.tuple #[]) ∧ IsS112 w0 w' g (if b then low else at_) (if b then at_ - 1 else high) ∧ Below w0.heap.size w0 w' ∧ KeepBut w w' g none := by
  refine seek_search_told.calls g low high at_ b _ _ w0 w hI hB ?_
  unfold seek_search_told.f
  have e1 : wrap64 (at_ - 1) = at_ - 1 := by unfold wrap64; omega
  rw [e1]
  cases b <;> rfl
set_option maxHeartbeats 1600000 in
set_option maxRecDepth 100000 in
theorem run_some (F : Nat) (caps : Array Value) (I : World → List Int → Prop) (A0 : Option Addr) (c0 : Nat) (ts : List Int) (t : Int) (w0 w : World) (hL : Look w0 F caps I)
    (hr : Kd.C (Kd.int .i64) w0 A0 ts.length ts) (hc : ts.length ≤ c0) (hb : ts.length < 1000000) (hn : 0 < ts.length) (ht : ¬ t < rd ts 0) (hI : I w []) (hB : Below w0.heap.size w0 w) :
    Calls Tryd.prog 104 #[.slice A0 ts.length c0, .int .i64 t, .func (.func F) #[] caps] w fun e w' => e = .returned (.int .i64 (lookRun ts t).2) ∧ I w' (lookRun ts t).1 ∧ Below w0.heap.size w0 w' := by
  have H0 : Hid (lookRun ts t = lookGo ts t ts.length 0 (ts.length - 1) [0]) := by unfold lookRun; rw [if_neg (by omega), if_neg ht]; rfl
  have HR := Aside0.mk hr
  have HL := Aside0.mk hL
  have HI := Aside0.mk hI
  have HB := Aside0.mk hB
  clear hr hL hI hB
  have n0 : ((ts.length : Int) == 0) = false := by simp; intro h; simp [h] at hn
  obtain ⟨ad, rfl, hx0⟩ := Kd.at_int HR.out 0 (by omega) (by omega)
  have hp0 : (0 : Int) < (ts.length : Int) := by omega
  have ht' : decide (t < rd ts 0) = false := by simp; omega
  have hE := HL.out.enter
  go_enter Tryd.func104, Tryd.ntmps104
  go_wp2_with fail
  refine (HL.out.call [] 0 _ HI.out HB.out (by simp)).mono ?_
  rintro e1 w1 ⟨rfl, hI1, hB1, hK1⟩
  have HI1 := Aside0.mk hI1
  have HB1 := Aside0.mk hB1
  clear hI1 hB1 hK1 HI HB
  have hx1 := (HB1.out.cell (World.block_lt_of_cell? w0 _ hx0)).trans hx0
  clear hx0
  rw [show ad.add (Int.toNat 0) = ad from by simp [Addr.add]] at hx1
  go_wp2_with fail
  have hs := IsS112.new w0 w1 0 ((ts.length : Int) - 1) HB1.out
  refine (next_any w1.heap.size 0 ((ts.length : Int) - 1) w0 _ hs (below_alloc HB1.out _) (by omega) (by omega) (by omega)).mono ?_
  rintro e2 w2 ⟨rfl, hs2, hB2, hK2⟩
  have hI2 := HL.out.keep _ w2 _ w1.heap.size _ (HL.out.alloc _ _ _ HI1.out) (heap_alloc_new w1 _) hK2
  have HI2 := Aside0.mk hI2
  have HB2 := Aside0.mk hB2
  have HS2 := Aside0.mk hs2
  have HN : Aside0 (w0.heap.size ≤ w1.heap.size) := Aside0.mk HB1.out.size
  obtain ⟨g, hg⟩ : ∃ g, g = w1.heap.size := ⟨_, rfl⟩
  rw [← hg] at HS2
  rw [← hg]
  clear hs hI2 hB2 hs2 hK2 HI1 HB1 hx1 hg
  go_wp2_with fail
  go_loopg [8, 9] (ts.length) (fun kq v8 v9 w' => ∃ (low high : Int) (acc : List Int), v8 = .int .i64 (low + (high - low + 1) / 2) ∧ v9 = .bool (decide (low < high)) ∧ Aside0 (0 ≤ low ∧ low ≤ high ∧ high < ts.length ∧ high - low ≤ kq) ∧ Aside0 (lookGo ts t kq low high acc = lookRun ts t) ∧ Aside0 (I w' acc) ∧ Aside0 (IsS112 w0 w' g low high) ∧ Aside0 (Below w0.heap.size w0 w') ∧ Aside0 (acc.length + kq ≤ 1000001))
  case atStart => exact ⟨0, (ts.length : Int) - 1, [0], (by first | rfl | (simp; done)), (by first | rfl | (simp; done)), ⟨by omega⟩, ⟨H0.out.symm⟩, HI2, HS2, HB2, ⟨by simp; omega⟩⟩
  case round =>
    obtain ⟨low, high, acc, rfl, rfl, HV, HG, HI, HS, HB, HA⟩ := hrel
    obtain ⟨hv0, hv1, hv2, hv3⟩ := HV.out
    have hA := HA.out
    obtain ⟨m, hm⟩ : ∃ m, m = low + (high - low + 1) / 2 := ⟨_, rfl⟩
    rw [← hm]
    have HM := Aside0.mk hm
    by_cases hlt : low < high
    · have hd : decide (low < high) = true := by simpa using hlt
      have hm0 : low < m := by omega
      have hm1 : m ≤ high := by omega
      have hm2 : 0 ≤ m := by omega
      have hm3 : m < (ts.length : Int) := by omega
      clear hm
      cases gk with
      | zero => omega
      | succ k1 =>
        have hG := HG.out
        unfold lookGo at hG
        rw [if_pos hlt, ← HM.out] at hG
        have HG1 := Aside0.mk hG
        clear hG HG
        obtain ⟨ad2, e2, hx2⟩ := Kd.at_int HR.out m hm2 hm3
        obtain rfl : ad = ad2 := by injection e2
        clear e2
        have HK0 := Aside0.mk hv3
        have HK1 := Aside0.mk hA
        clear hv3 hA hlt
        go_wp2_with fail
        refine (HL.out.call acc m _ HI.out HB.out (by have := HK1.out; omega)).mono ?_
        rintro e3 w3 ⟨rfl, hI3, hB3, hK3⟩
        have HI3 := Aside0.mk hI3
        have HB3 := Aside0.mk hB3
        have HS3 := Aside0.mk (IsS112.keepTy HS.out hK3)
        clear hI3 hB3 hK3 HI HB HS
        have hx3 := (HB3.out.cell (World.block_lt_of_cell? w0 _ hx2)).trans hx2
        clear hx2
        go_wp2_with fail
        refine (told_any g low high m _ w0 w3 HS3.out HB3.out hm2 (by omega)).mono ?_
        rintro e4 w4 ⟨rfl, hs4, hB4, hK4⟩
        have hI4 := HL.out.keep _ w4 _ g _ HI3.out HS3.out.1 hK4
        have HGe : Hid (w0.heap.size ≤ g) := HS3.out.2
        obtain ⟨l2, h2, hl2, hh2, hb1, hb2, hb3, hb4, hG2⟩ : ∃ l2 h2 : Int, l2 = (if decide (t < rd ts m) = true then low else m) ∧ h2 = (if decide (t < rd ts m) = true then m - 1 else high) ∧ 0 ≤ l2 ∧ l2 ≤ h2 ∧ h2 < ts.length ∧ h2 - l2 ≤ k1 ∧ lookGo ts t k1 l2 h2 (acc ++ [m]) = lookRun ts t := by
          have hG := HG1.out
          have hK := HK0.out
          by_cases hb : t < rd ts m
          · rw [if_pos hb] at hG
            exact ⟨low, m - 1, by simp [hb], by simp [hb], by omega, by omega, by omega, by omega, hG⟩
          · rw [if_neg hb] at hG
            exact ⟨m, high, by simp [hb], by simp [hb], by omega, by omega, by omega, by omega, hG⟩
        rw [← hl2, ← hh2] at hs4
        have HI4 := Aside0.mk hI4
        have HB4 := Aside0.mk hB4
        have HS4 := Aside0.mk hs4
        have HG4 := Aside0.mk hG2
        clear hI4 hB4 hs4 hG2 hl2 hh2 hK4 HI3 HB3 HS3 hx3 hm0 hm1 hm2 hm3
        go_wp2_with fail
        refine (next_any g l2 h2 w0 w4 HS4.out HB4.out hb1 hb2 (by omega)).mono ?_
        rintro e5 w5 ⟨rfl, hs5, hB5, hK5⟩
        have hI5 := HL.out.keep _ w5 _ g _ HI4.out HS4.out.1 hK5
        have HI5 := Aside0.mk hI5
        have HB5 := Aside0.mk hB5
        have HS5 := Aside0.mk hs5
        have HV5 := Aside0.mk (And.intro hb1 (And.intro hb2 (And.intro hb3 hb4)))
        clear hI5 hB5 hs5 hK5 hb1 hb2 hb3 hb4
        go_wp2_with fail
        go_roundg k1
        case measure => omega
        case rel => exact ⟨l2, h2, acc ++ [m], rfl, rfl, HV5, HG4, HI5, HS5, HB5, ⟨by have := HK1.out; simp; omega⟩⟩
    · have hd : decide (low < high) = false := by simpa using hlt
      have e1 : low = high := by omega
      have hG : lookRun ts t = (acc, low) := by
        rw [← HG.out]
        cases gk <;> simp [lookGo, hlt]
      have HG1 := Aside0.mk hG
      have HS1 := Aside0.mk (cellS112_0 HS.out.1)
      have hc1 := HS1.out
      clear hG e1 hm hlt HG hv0 hv1 hv2 hv3 hA
      rw [hd]
      clear hd
      go_wp2_with fail
      go_ret
      refine ⟨?_, ?_, HB.out⟩
      · rw [HG1.out]; rfl
      · rw [HG1.out]; exact HI.out
end Go.Proofs.YteamljekjncbfaaDoor.P
end
