/- Lemmas of this claim, part 19. -/
import Derived.Test.YteamljekjncbfaaDoorPartSeekAny18
import Derived.Test.YteamljekjncbfaaDoorPartSeekAny15
import Derived.Test.YteamljekjncbfaaDoorPartSeekAny3
import Derived.Deep.RegionHeld
section
set_option linter.unusedVariables false
set_option linter.unusedSimpArgs false
namespace Go.Proofs.YteamljekjncbfaaDoor.P
open Go.RowKit Go.Proofs.YteamljekjncbfaaDoor.Pure Go.Proofs.YteamljekjncbfaaDoorW.PrintWords Go.Proofs.YteamljekjncbfaaDoorW.PrintLast Go.Proofs.YteamljekjncbfaaDoorW.PrintMore
theorem wayL_step (n f t : Nat) (h : t < f) (hn : f - t ≤ n) : wayL n f t = (nxt f t : Int) :: wayL (n - 1) (nxt f t) t := by
  obtain ⟨n, rfl⟩ : ∃ m, n = m + 1 := ⟨n - 1, by omega⟩
  simp only [wayL]
  rw [if_pos h]
  rfl
theorem wayL_done (n f t : Nat) (h : ¬ t < f) : wayL n f t = [] := by
  cases n with
  | zero => rfl
  | succ n => exact if_neg h
theorem nxt_int (a t : Int) (ha : 0 ≤ a) (ha2 : a < 9223372036854775808) (ht : 0 ≤ t) (h : t < a) : (nxt a.toNat t.toNat : Int) = a - (p2 (hopE a t) : Int) ∧ t ≤ (nxt a.toNat t.toNat : Int) ∧ (nxt a.toNat t.toNat : Int) < a := by
  have h1 := hop_le a.toNat t.toNat (by omega) (by omega)
  have h2 := nxt_lt a.toNat t.toNat (by omega) (by omega)
  refine ⟨?_, by omega, by omega⟩
  unfold nxt hopE
  omega
theorem follow_len (size t : Int) (ht : 0 ≤ t) : ∀ (l : List Rec) (x : Rec) (n : Nat), CanR size x → x.f0.toNat - t.toNat ≤ n → followS size t x l ≠ none → l.length = (wayL n x.f0.toNat t.toNat).length := by
  intro l
  induction l with
  | nil =>
    intro x n hx hn h
    simp only [followS] at h
    by_cases hxt : x.f0 = t
    · rw [wayL_done _ _ _ (by omega)]
      rfl
    · rw [if_neg hxt] at h
      exact absurd rfl h
  | cons r l ih =>
    intro x n hx hn h
    simp only [followS] at h
    have hx0 := hx.2.1
    by_cases hle : x.f0 ≤ t
    · rw [if_pos hle] at h
      exact absurd rfl h
    · rw [if_neg hle] at h
      split at h
      · rename_i hc
        have hn1 := nxt_int x.f0 t hx0.1 (by omega) ht (by omega)
        have hr : r.f0.toNat = nxt x.f0.toNat t.toNat := by omega
        rw [wayL_step n _ _ (by omega) hn, ← hr, List.length_cons, List.length_cons, ih r (n - 1) hc.2.1 (by omega) h]
      · exact absurd rfl h
set_option maxRecDepth 100000 in
theorem results_rfollow (W : World) (g : Nat) (x : Rec) (p : Rows6) (b : Bool) (h : RecB W g x p) (tm : Array Value) (h8 : tm[8]?.getD undef = .pointer (some ⟨g, 0, none⟩)) (h9 : tm[9]?.getD undef = .bool b) : (results Tryd.f31 tm).run Tryd.prog W = .ok (.tuple #[recAgg x p, .bool b]) W := by
  obtain ⟨c0, c1, c2, c3, c4, c5⟩ := h.cells
  simp [results, Tryd.results31, go_sem, h8, h9, c0, c1, c2, c3, c4, c5, recAgg]
def rfollow_T10 : Bool × List (List Nat × List Nat) := (true, [([], []), ([], []), ([0, 1], [0, 1]), ([2], [2]), ([3, 2], [3]), ([4], [4]), ([5, 4], [4, 5]), ([4], [4]), ([4], [4]), ([7, 8, 4], [4, 7, 8]), ([9, 4], [4, 9]), ([6, 10, 4], [4, 6, 10]), ([4, 11], [4, 11]), ([12, 4], [12]), ([13], [13]), ([13], [13]), ([13], [13]), ([14, 15, 16, 13, 13], [13, 14, 15, 16]), ([17, 13], [13, 17]), ([13, 18], [13, 18])])
def rfollow_B10 : List Nat := [0, 0, 3, 7, 15, 31, 63, 31, 31, 415, 927, 2047, 4095, 8191, 16383, 16383, 16383, 131071, 262143, 524287]
theorem rfollow_tab10 : rtab .any (opsOf Tryd.f31 10) = rfollow_T10 := by kernel_rfl
theorem rfollow_bits10 : waitsOk rfollow_T10.2 rfollow_B10 = true := by kernel_rfl
set_option maxHeartbeats 8000000 in
set_option maxRecDepth 100000 in
theorem rfollow_callsI (size : Int) (x0 : Rec) (p0 : Rows6) (Aw : Option Addr) (cw : Nat) (way : List Rec) (t : Int) (w0 w : World) (hB0 : Below w0.heap.size w0 w) (h0 : RecC w0 p0 x0) (hw : Kd.C k40 w0 Aw way.length way)
    (hs : -9223372036854775808 ≤ size ∧ size < 9223372036854775808) (ho : RecOk x0) (hway : ∀ r ∈ way, RecOk r) :
    Calls Tryd.prog 31 #[.int .i64 size, .agg #[.int .i64 x0.f0, .int .i64 x0.f1, .slice p0.A2 x0.f2.length p0.c2, .int .i64 x0.f3, .slice p0.A4 x0.f4.length p0.c4, .slice p0.A5 x0.f5.length p0.c5], .slice Aw way.length cw, .int .i64 t] w (FollowPostI w0 (followR size x0 way t) w) := by
  have H00 := Aside0.mk h0
  have HW0 := Aside0.mk hw
  have HB0 := Aside0.mk hB0
  replace h0 := h0.below hB0
  replace hw := Kd.C_below hw hB0
  clear hB0
  have H0 := Aside0.mk h0
  have HW := Aside0.mk hw
  have HS := Aside0.mk hs
  have HO := Aside0.mk ho
  have HWAY := Aside0.mk hway
  have hwm := hw.2.1
  have HWM := Aside0.mk hwm
  clear h0 hw hs ho hway hwm
  go_enter Tryd.func31, Tryd.ntmps31
  go_wp2_with fail
  obtain ⟨W1, hW1⟩ : ∃ W1, W1 = (w.alloc (.cells (recL x0 p0).toArray 40)).alloc (.cells (recL z40 z6).toArray 40) := ⟨_, rfl⟩
  have hB1 : Below w.heap.size w W1 := by rw [hW1]; exact below_alloc (below_alloc (Below.refl _ _) _) _
  have h5 : RecB W1 w.heap.size x0 p0 := by
    rw [hW1]
    exact (recB_new w x0 p0).below (below_alloc (Below.refl _ _) _)
  have h8 : RecB W1 (w.heap.size + 1) z40 z6 := by
    rw [hW1]
    have := recB_new (w.alloc (.cells (recL x0 p0).toArray 40)) z40 z6
    simpa using this
  change Calls _ _ _ ((w.alloc (.cells (recL x0 p0).toArray 40)).alloc (.cells (recL z40 z6).toArray 40)) _
  rw [← hW1]
  have HB1 := Aside0.mk hB1
  have H5 := Aside0.mk h5
  have H8 := Aside0.mk h8
  have hC1 := H0.out.below hB1
  clear hW1 hB1 h5 h8
  refine (annalsref13_Can.calls 200 size x0.f0 x0.f1 p0.A2 p0.c2 x0.f2 x0.f3 p0.A4 p0.c4 x0.f4 p0.A5 p0.c5 x0.f5 (decide (CanR size x0)) W1 hC1.g2 hC1.l2 hC1.g4 hC1.l4 hC1.g5 hC1.l5 (rcan_f size x0 HO.out.e1 200 (by decide))).mono ?_
  rintro e w2 ⟨rfl, hB2⟩
  have HB2 := Aside0.mk (HB1.out.trans (hB2.mono HB1.out.size))
  replace H5 := Aside0.mk (H5.out.below hB2)
  replace H8 := Aside0.mk (H8.out.below hB2)
  have HC2 := Aside0.mk (hC1.below hB2)
  clear hB2 hC1 HB1
  obtain ⟨e0, e1, e2, e3, e4, e5⟩ := H5.out.cells
  by_cases hcan : CanR size x0
  case neg =>
    have HNO := Aside0.mk (show followR size x0 way t = none from if_neg (fun h => hcan h.1))
    have hd := decide_eq_false hcan
    clear hcan
    obtain ⟨f0, f1, f2, f3, f4, f5⟩ := H8.out.frozen
    obtain ⟨d0, d1, d2, d3, d4, d5⟩ := H8.out.cells
    go_wp2_with fail
    have hno := follow_noI (w0 := w0) (o := followR size x0 way t) H8.out HB2.out (by omega) HNO.out
    exact bodyPost_ret (results_rfollow _ (w.heap.size + 1) z40 z6 false hno.1 _ rfl rfl) rfl hno.2
  have hd := decide_eq_true hcan
  by_cases ht : t < 0
  · have HNO := Aside0.mk (show followR size x0 way t = none from if_neg (fun h => by omega))
    have hdt := decide_eq_true ht
    clear hcan ht
    obtain ⟨f0, f1, f2, f3, f4, f5⟩ := H8.out.frozen
    obtain ⟨d0, d1, d2, d3, d4, d5⟩ := H8.out.cells
    go_wp2_with fail
    have hno := follow_noI (w0 := w0) (o := followR size x0 way t) H8.out HB2.out (by omega) HNO.out
    exact bodyPost_ret (results_rfollow _ (w.heap.size + 1) z40 z6 false hno.1 _ rfl rfl) rfl hno.2
  have hdt := decide_eq_false ht
  by_cases hle : x0.f0 < t
  · have HNO := Aside0.mk (show followR size x0 way t = none from if_neg (fun h => by omega))
    have hdl := decide_eq_true hle
    clear hcan ht hle
    obtain ⟨f0, f1, f2, f3, f4, f5⟩ := H8.out.frozen
    obtain ⟨d0, d1, d2, d3, d4, d5⟩ := H8.out.cells
    go_wp2_with fail
    have hno := follow_noI (w0 := w0) (o := followR size x0 way t) H8.out HB2.out (by omega) HNO.out
    exact bodyPost_ret (results_rfollow _ (w.heap.size + 1) z40 z6 false hno.1 _ rfl rfl) rfl hno.2
  have hdl := decide_eq_false hle
  have HFR := Aside0.mk (show followR size x0 way t = followS size t x0 way from if_pos ⟨hcan, by omega, by omega⟩)
  have HCAN := Aside0.mk hcan
  have HT := Aside0.mk (show 0 ≤ t by omega)
  have HTX0 := Aside0.mk (show t ≤ x0.f0 by omega)
  clear hcan ht hle
  go_wp2_with fail
  obtain ⟨E, hE⟩ : ∃ E, E = wayL x0.f0.toNat x0.f0.toNat t.toNat := ⟨_, rfl⟩
  have hway : annalsref14_Way.f 1049000 x0.f0 t = some E := by
    have hx := HCAN.out.2.1
    have ht := HT.out
    by_cases hlt : t < x0.f0
    · obtain ⟨a, ha⟩ := Int.eq_ofNat_of_zero_le hx.1
      obtain ⟨c, hc⟩ := Int.eq_ofNat_of_zero_le ht
      rw [hE, ha, hc]
      exact rway_yes a c (by omega) (by omega) 1049000 (by decide)
    · rw [hE, wayL_done _ _ _ (by omega)]
      exact rway_no x0.f0 t (.inr (by omega)) 1049000 (by decide)
  refine (annalsref14_Way.calls 1049000 x0.f0 t E w2 hway).mono ?_
  rintro e w3 ⟨v, rfl, hR3, hB3⟩
  obtain ⟨Av, cv, rfl⟩ := Kd.R_slice hR3
  have HE := Aside0.mk hE
  have HVR := Aside0.mk (Kd.R_reads' hR3)
  replace HB2 := Aside0.mk (HB2.out.trans (hB3.mono HB2.out.size))
  replace H5 := Aside0.mk (H5.out.below hB3)
  replace H8 := Aside0.mk (H8.out.below hB3)
  replace HC2 := Aside0.mk (HC2.out.below hB3)
  clear hR3 hB3 hway hE e0 e1 e2 e3 e4 e5 hd hdt hdl
  obtain ⟨e0, e1, e2, e3, e4, e5⟩ := H5.out.cells
  by_cases hlen : E.length = way.length
  case neg =>
    have HNO := Aside0.mk (show followR size x0 way t = none from by
      rw [HFR.out]
      by_cases hn : followS size t x0 way = none
      · exact hn
      · exact absurd (by rw [HE.out]; exact (follow_len size t HT.out way x0 _ HCAN.out (by omega) hn).symm) hlen)
    have hl1 : ((E.length : Int) != (way.length : Int)) = true := by simp; omega
    have hl2 : (E.length != way.length) = true := by simpa using hlen
    clear hlen
    obtain ⟨f0, f1, f2, f3, f4, f5⟩ := H8.out.frozen
    obtain ⟨d0, d1, d2, d3, d4, d5⟩ := H8.out.cells
    go_wp2_with fail
    have hno := follow_noI (w0 := w0) (o := followR size x0 way t) H8.out HB2.out (by omega) HNO.out
    exact bodyPost_ret (results_rfollow _ (w.heap.size + 1) z40 z6 false hno.1 _ rfl rfl) rfl hno.2
  have hl1 : ((E.length : Int) != (way.length : Int)) = false := by simp [hlen]
  have hl2 : (E.length != way.length) = false := by simp [hlen]
  have HLEN := Aside0.mk hlen
  clear hlen
  go_wp2_with fail
  obtain ⟨W3, hW3⟩ : ∃ W3, W3 = w3.alloc (.cells (recL x0 p0).toArray 40) := ⟨_, rfl⟩
  change Code.wp _ _ _ _ (w3.alloc (.cells (recL x0 p0).toArray 40))
  rw [← hW3]
  have hB3 : Below w3.heap.size w3 W3 := by rw [hW3]; exact below_alloc (Below.refl _ _) _
  have h10 : RecB W3 w3.heap.size x0 p0 := by rw [hW3]; exact recB_new _ _ _
  obtain ⟨g, hg⟩ : ∃ g, g = w3.heap.size := ⟨_, rfl⟩
  rw [← hg] at h10
  rw [← hg]
  have HB3 := Aside0.mk (HB2.out.trans (hB3.mono HB2.out.size))
  have HBE := Aside0.mk hB3
  have H83 := Aside0.mk (H8.out.below hB3)
  have H10 := Aside0.mk h10
  have HG := Aside0.mk (show w.heap.size ≤ g by rw [hg]; exact HB2.out.size)
  have HG3 := Aside0.mk (show w3.heap.size ≤ g by omega)
  have HG8 := Aside0.mk (show g ≠ w.heap.size + 1 by have := H8.out.lt; omega)
  obtain ⟨q, hq⟩ : ∃ q, q = w.heap.size + 1 := ⟨_, rfl⟩
  rw [← hq] at H83 HG8
  rw [← hq]
  have HQ := Aside0.mk (show w.heap.size ≤ q by omega)
  have HED := Aside0.mk (show ∃ n, x0.f0.toNat - t.toNat ≤ n ∧ E.drop 0 = wayL n x0.f0.toNat t.toNat from ⟨x0.f0.toNat, by omega, by rw [List.drop_zero]; exact HE.out⟩)
  have HTX := Aside0.mk HTX0.out
  clear hW3 hB3 h10 hg hq HB2 H8 HC2 H5 e0 e1 e2 e3 e4 e5 hl1 hl2 HE
  go_loopw [42] (fun v42 wr => ∃ (k : Nat) (x : Rec) (p : Rows6), k ≤ way.length ∧ v42 = .int .i64 (k : Int) ∧ Aside0 (RecB wr g x p) ∧ Aside0 (RecC w0 p x) ∧ Aside0 (RecB wr q z40 z6) ∧ Aside0 (CanR size x ∧ RecOk x) ∧ Aside0 (t ≤ x.f0) ∧ Aside0 (followR size x0 way t = followS size t x (way.drop k)) ∧ Aside0 (∃ n, x.f0.toNat - t.toNat ≤ n ∧ E.drop k = wayL n x.f0.toNat t.toNat) ∧ Aside0 (Below w.heap.size w wr) ∧ Aside0 (Below w3.heap.size w3 wr)) (fun v42 _ => way.length - (intOf v42).toNat)
  case atStart => exact ⟨0, x0, p0, by omega, rfl, H10, H00, H83, ⟨HCAN.out, HO.out⟩, HTX, ⟨by rw [List.drop_zero]; exact HFR.out⟩, HED, HB3, HBE⟩
  case round =>
    clear H10 H83 HCAN HFR HB3 H0 H00 HO HTX HED HBE
    obtain ⟨k, x, p, hk, rfl, H10, HC00, H8, HX, HTX, HF, HED, HB, HBE⟩ := hrel
    have HC0 := Aside0.mk (HC00.out.below HB0.out)
    have hwm := HWM.out
    by_cases hlt : k < way.length
    · obtain ⟨ad, pr, hAw, hRC, r0, r1, r2, r3, r4, r5⟩ := rec_at HW0.out k hlt
      replace r0 := (HB0.out.cell (World.block_lt_of_cell? w0 _ r0)).trans r0
      replace r1 := (HB0.out.cell (World.block_lt_of_cell? w0 _ r1)).trans r1
      replace r2 := (HB0.out.cell (World.block_lt_of_cell? w0 _ r2)).trans r2
      replace r3 := (HB0.out.cell (World.block_lt_of_cell? w0 _ r3)).trans r3
      replace r4 := (HB0.out.cell (World.block_lt_of_cell? w0 _ r4)).trans r4
      replace r5 := (HB0.out.cell (World.block_lt_of_cell? w0 _ r5)).trans r5
      subst hAw
      obtain ⟨r, hr⟩ : ∃ r, r = rd_T40 way (k : Int) := ⟨_, rfl⟩
      rw [← hr] at hRC r0 r1 r2 r3 r4 r5
      have hrm : r = way[k] := by
        rw [hr]
        unfold rd_T40
        rw [Int.toNat_natCast, List.getD_eq_getElem?_getD, List.getElem?_eq_getElem hlt]
        rfl
      have HRO := Aside0.mk (show RecOk r by rw [hrm]; exact HWAY.out _ (List.getElem_mem hlt))
      have HDR := Aside0.mk (show way.drop k = r :: way.drop (k + 1) by rw [hrm]; exact List.drop_eq_getElem_cons hlt)
      have HRC00 := Aside0.mk hRC
      replace hRC := hRC.below HB0.out
      have HRC0 := Aside0.mk hRC
      replace r0 := (HB.out.cell (World.block_lt_of_cell? w _ r0)).trans r0
      replace r1 := (HB.out.cell (World.block_lt_of_cell? w _ r1)).trans r1
      replace r2 := (HB.out.cell (World.block_lt_of_cell? w _ r2)).trans r2
      replace r3 := (HB.out.cell (World.block_lt_of_cell? w _ r3)).trans r3
      replace r4 := (HB.out.cell (World.block_lt_of_cell? w _ r4)).trans r4
      replace r5 := (HB.out.cell (World.block_lt_of_cell? w _ r5)).trans r5
      have hd : decide ((k : Int) < (way.length : Int)) = true := by simp; omega
      have q1 : (k : Int) < (way.length : Int) := by omega
      have HLT := Aside0.mk hlt
      have hkE : k < E.length := by have := HLEN.out; omega
      obtain ⟨n, hn, hEd⟩ := HED.out
      rw [List.drop_eq_getElem_cons hkE] at hEd
      have hlx : t < x.f0 := by
        by_cases h : t < x.f0
        · exact h
        · rw [wayL_done _ _ _ (by have := HT.out; have := HTX.out; omega)] at hEd
          exact absurd hEd (List.cons_ne_nil _ _)
      have hx0 := HX.out.1.2.1
      have ht0 := HT.out
      have hl5 := HX.out.1.2.2.2.2.2.1
      rw [wayL_step n _ _ (by omega) hn] at hEd
      obtain ⟨hE0, hE1⟩ := List.cons.inj hEd
      have hnx := nxt_int x.f0 t hx0.1 (by omega) ht0 hlx
      obtain ⟨h, hh⟩ : ∃ h : Nat, h = hopE x.f0 t := ⟨_, rfl⟩
      have hhl := hop_le x.f0.toNat t.toNat (by omega) (by omega)
      have hv : h ≤ vz x.f0.toNat := by rw [hh]; exact Nat.min_le_left _ _
      have h5l : h < x.f5.length := by rw [hl5]; unfold linksN; rw [if_neg (by omega)]; omega
      obtain ⟨e, he⟩ : ∃ e : Int, e = x.f0 - (p2 h : Int) := ⟨_, rfl⟩
      have hee : E[k] = e := by rw [hE0, he, hh]; exact hnx.1
      obtain ⟨ade, hAe, hex⟩ := Kd.at_int HVR.out.2.2 (k : Int) (by omega) (by omega)
      have hexe : rd E (k : Int) = e := by
        unfold rd
        rw [Int.toNat_natCast, List.getD_eq_getElem?_getD, List.getElem?_eq_getElem hkE, ← hee]
        rfl
      rw [hexe, Int.toNat_natCast] at hex
      subst hAe
      have HLK := Aside0.mk (show annalsref14_Links.f 200 x.f0 = some (links x.f0.toNat) by
        have := rlinks_f x.f0.toNat (by omega) (by omega) 200 (by decide)
        rwa [Int.toNat_of_nonneg hx0.1] at this)
      have HLJ := Aside0.mk (show h < (links x.f0.toNat).length by rw [links_length]; omega)
      have H5L := Aside0.mk h5l
      have HEH := Aside0.mk he
      have HHH := Aside0.mk hh
      have HNX := Aside0.mk (show e = (nxt x.f0.toNat t.toNat : Int) by rw [← hee]; exact hE0)
      have HNB := Aside0.mk hnx
      have HLX := Aside0.mk hlx
      have HE1 := Aside0.mk (show ∃ n, (nxt x.f0.toNat t.toNat) - t.toNat ≤ n ∧ E.drop (k + 1) = wayL n (nxt x.f0.toNat t.toNat) t.toNat from ⟨n - 1, by omega, hE1⟩)
      have hkl : (k : Int) < (E.length : Int) := by omega
      obtain ⟨L, hL⟩ : ∃ L, L = rd_L1 x.f5 (h : Int) := ⟨_, rfl⟩
      have hLm : L ∈ x.f5 := by
        rw [hL, rd_L1_at _ _ h5l]
        exact List.getElem_mem _
      have HLL := Aside0.mk hL
      have HSTR := Aside0.mk (show ((strOfNums (rd_L1 x.f5 (h : Int))).toList == (strOfNums (hashR size r)).toList) = decide (L = hashR size r) from by rw [← hL]; exact strNum_eq (HX.out.2.t5 L hLm) (hashR_ok size r))
      obtain ⟨e0, e1, e2, e3, e4, e5⟩ := H10.out.cells
      have hgl := H10.out.lt
      clear hRC hr hrm hlt hk hE0 hE1 hEd hn hkE hhl hv h5l he hh hee hexe hlx hnx hL hLm hl5
      go_wp2_with fail
      obtain ⟨wq, hwq⟩ : ∃ wq, wq = wr.alloc (.cells (recL r pr).toArray 40) := ⟨_, rfl⟩
      change Code.wp _ _ _ _ (wr.alloc (.cells (recL r pr).toArray 40))
      rw [← hwq]
      have hBq : Below wr.heap.size wr wq := by rw [hwq]; exact below_alloc (Below.refl _ _) _
      have h12 : RecB wq wr.heap.size r pr := by rw [hwq]; exact recB_new _ _ _
      obtain ⟨b, hb⟩ : ∃ b, b = wr.heap.size := ⟨_, rfl⟩
      rw [← hb] at h12
      rw [← hb]
      have HBQ := Aside0.mk (HB.out.trans (hBq.mono HB.out.size))
      have HBEQ := Aside0.mk (HBE.out.trans (hBq.mono HBE.out.size))
      replace H8 := Aside0.mk (H8.out.below hBq)
      replace H10 := Aside0.mk (H10.out.below hBq)
      have H12 := Aside0.mk h12
      have hexq := (HBEQ.out.cell (World.block_lt_of_cell? w3 _ hex)).trans hex
      have hkeep : ∀ w' : World, Below wq.heap.size wq w' → (Below wq.heap.size wq w' ∧ w'.cell? ⟨b, 0, none⟩ = some (.int .i64 r.f0) ∧ w'.cell? ⟨b, 1, none⟩ = some (.int .i64 r.f1) ∧ w'.cell? ⟨b, 2, none⟩ = some (.slice pr.A2 r.f2.length pr.c2) ∧ w'.cell? ⟨b, 3, none⟩ = some (.int .i64 r.f3) ∧ w'.cell? ⟨b, 4, none⟩ = some (.slice pr.A4 r.f4.length pr.c4) ∧ w'.cell? ⟨b, 5, none⟩ = some (.slice pr.A5 r.f5.length pr.c5) ∧ w'.cell? ⟨g, 0, none⟩ = some (.int .i64 x.f0) ∧ w'.cell? ⟨g, 1, none⟩ = some (.int .i64 x.f1) ∧ w'.cell? ⟨g, 2, none⟩ = some (.slice p.A2 x.f2.length p.c2) ∧ w'.cell? ⟨g, 3, none⟩ = some (.int .i64 x.f3) ∧ w'.cell? ⟨g, 4, none⟩ = some (.slice p.A4 x.f4.length p.c4) ∧ w'.cell? ⟨g, 5, none⟩ = some (.slice p.A5 x.f5.length p.c5) ∧ w'.cell? (ade.add k) = some (.int .i64 e)) := fun w' hb' => by
        obtain ⟨a0, a1, a2, a3, a4, a5⟩ := (H12.out.below hb').cells
        obtain ⟨b0, b1, b2, b3, b4, b5⟩ := (H10.out.below hb').cells
        exact ⟨hb', a0, a1, a2, a3, a4, a5, b0, b1, b2, b3, b4, b5, (hb'.cell (World.block_lt_of_cell? wq _ hexq)).trans hexq⟩
      have HKEEP := Aside0.mk hkeep
      have HEXQ := Aside0.mk hexq
      clear hwq hBq h12 hb HB HBE hexq hkeep hex e0 e1 e2 e3 e4 e5 r0 r1 r2 r3 r4 r5 hgl
      have HCANC := Aside0.mk (show ∀ W : World, Below wq.heap.size wq W → Calls Tryd.prog 64 #[.int .i64 size, .agg #[.int .i64 r.f0, .int .i64 r.f1, .slice pr.A2 r.f2.length pr.c2, .int .i64 r.f3, .slice pr.A4 r.f4.length pr.c4, .slice pr.A5 r.f5.length pr.c5]] W fun e8 w8 => e8 = .returned (.bool (decide (CanR size r))) ∧ Below W.heap.size W w8 from fun W hb => by
        have hq := HBQ.out.trans (hb.mono HBQ.out.size)
        have hc := HRC0.out.below hq
        exact annalsref13_Can.calls 200 size r.f0 r.f1 pr.A2 pr.c2 r.f2 r.f3 pr.A4 pr.c4 r.f4 pr.A5 pr.c5 r.f5 (decide (CanR size r)) W hc.g2 hc.l2 hc.g4 hc.l4 hc.g5 hc.l5 (rcan_f size r HRO.out.e1 200 (by decide)))
      by_cases hcr : CanR size r
      case neg =>
        have HNO := Aside0.mk (show followR size x0 way t = none by
          rw [HF.out, HDR.out]
          unfold followS
          split
          · rfl
          · exact if_neg (fun hc => hcr hc.2.1))
        rw [decide_eq_false hcr] at HCANC
        clear hcr
        refine start_ (n := 20) (S := fun w' => Below wq.heap.size wq w' ∧ w'.cell? ⟨b, 0, none⟩ = some (.int .i64 r.f0) ∧ w'.cell? ⟨b, 1, none⟩ = some (.int .i64 r.f1) ∧ w'.cell? ⟨b, 2, none⟩ = some (.slice pr.A2 r.f2.length pr.c2) ∧ w'.cell? ⟨b, 3, none⟩ = some (.int .i64 r.f3) ∧ w'.cell? ⟨b, 4, none⟩ = some (.slice pr.A4 r.f4.length pr.c4) ∧ w'.cell? ⟨b, 5, none⟩ = some (.slice pr.A5 r.f5.length pr.c5) ∧ w'.cell? ⟨g, 0, none⟩ = some (.int .i64 x.f0) ∧ w'.cell? ⟨g, 1, none⟩ = some (.int .i64 x.f1) ∧ w'.cell? ⟨g, 2, none⟩ = some (.slice p.A2 x.f2.length p.c2) ∧ w'.cell? ⟨g, 3, none⟩ = some (.int .i64 x.f3) ∧ w'.cell? ⟨g, 4, none⟩ = some (.slice p.A4 x.f4.length p.c4) ∧ w'.cell? ⟨g, 5, none⟩ = some (.slice p.A5 x.f5.length p.c5) ∧ w'.cell? (ade.add k) = some (.int .i64 e)) (ds := []) #[false, false, false, false, false, false, false, false, false, false, false, false, false, false, false, false, false, false, false, false] (by kernel_rfl) rfl rfl (HKEEP.out wq.drew (below_drew (Below.refl _ _))) (fun hHeld => ?_); refine with_tabW rfollow_tab10 rfollow_bits10 (fun HT_ HW_ => ?_)
        generalize hgw : wq.drew = w18 at hHeld ⊢
        clear hgw
        refine pure_ (i := 0) (N := (some 47)) (v := ?_) (a' := ?_) #[true, false, false, false, false, false, false, false, false, false, false, false, false, false, false, false, false, false, false, false] rfl rfl (any_of HT_.out (by kernel_rfl)) (fun _ _ _ h => h) (Or.inl ⟨by rfl, ?_⟩) ?_ ?_
        rotate_left
        · intro w'
          go_simp
          with_reducible rfl
        rotate_left
        · simp only [Act.put, List.setIfInBounds_toArray, List.set_cons_zero, List.set_cons_succ, i64_w, i32_w]
          rfl
        refine take_ (i := 1) (N := (some 48)) (v := ?_) (a' := ?_) #[true, true, false, false, false, false, false, false, false, false, false, false, false, false, false, false, false, false, false, false] rfl rfl (take_ofW HT_.out HW_.out (by kernel_rfl)) (fun _ _ _ h => h) (Or.inl ⟨by rfl, ?_⟩) hHeld ?_ ?_
        rotate_left
        · rintro w' ⟨hbl, s0, s1, s2, s3, s4, s5, s6, s7, s8, s9, s10, s11, s12⟩
          go_simp
          with_reducible rfl
        rotate_left
        · simp only [Act.put, List.setIfInBounds_toArray, List.set_cons_zero, List.set_cons_succ, i64_w, i32_w]
          rfl
        refine one_ (i := 2) (N := (some 49)) #[true, true, true, false, false, false, false, false, false, false, false, false, false, false, false, false, false, false, false, false] rfl rfl (one_of HT_.out (by kernel_rfl)) (by decide) (fun K hK => ?_)
        refine goes_ Tryd.func64 (by kernel_rfl) rfl #[.int .i64 size, .agg #[.int .i64 r.f0, .int .i64 r.f1, .slice pr.A2 r.f2.length pr.c2, .int .i64 r.f3, .slice pr.A4 r.f4.length pr.c4, .slice pr.A5 r.f5.length pr.c5]] (by rfl) rfl rfl (by (try simp only [List.map_toArray, List.map_cons, List.map_nil]); first | done | rfl) ?_
        with_reducible refine (HCANC.out _ hHeld.1).mono ?_
        rintro e8 w8 ⟨rfl, hB8⟩
        refine ⟨_, rfl, ?_⟩
        refine hK.out _ _ (HKEEP.out w8 (keep_trans hHeld.1 hB8)) (fun hHeld => ?_)
        clear hK K
        refine norm_ (a' := ?_) ?_ ?_
        rotate_left
        · show Act.put _ (some 49) _ = _
          simp only [Act.put, List.setIfInBounds_toArray, List.set_cons_zero, List.set_cons_succ, i64_w, i32_w]
          rfl
        refine pure_ (i := 3) (N := (some 50)) (v := ?_) (a' := ?_) #[true, true, true, true, false, false, false, false, false, false, false, false, false, false, false, false, false, false, false, false] rfl rfl (any_of HT_.out (by kernel_rfl)) (fun _ _ _ h => h) (Or.inl ⟨by rfl, ?_⟩) ?_ ?_
        rotate_left
        · intro w'
          go_simp
          with_reducible rfl
        rotate_left
        · simp only [Act.put, List.setIfInBounds_toArray, List.set_cons_zero, List.set_cons_succ, i64_w, i32_w]
          rfl
        refine pure_ (i := 4) (N := (some 51)) (v := ?_) (a' := ?_) #[true, true, true, true, true, false, false, false, false, false, false, false, false, false, false, false, false, false, false, false] rfl rfl (any_of HT_.out (by kernel_rfl)) (fun _ _ _ h => h) (Or.inl ⟨by rfl, ?_⟩) ?_ ?_
        rotate_left
        · intro w'
          go_simp
          with_reducible rfl
        rotate_left
        · simp only [Act.put, List.setIfInBounds_toArray, List.set_cons_zero, List.set_cons_succ, i64_w, i32_w]
          rfl
        refine pure_ (i := 5) (N := (some 52)) (v := undef) (a' := ?_) #[true, true, true, true, true, true, false, false, false, false, false, false, false, false, false, false, false, false, false, false] rfl rfl (any_of HT_.out (by kernel_rfl)) (fun _ _ _ h => h) (Or.inr ⟨by rfl, rfl⟩) ?_ ?_
        rotate_left
        · simp only [Act.put, List.setIfInBounds_toArray, List.set_cons_zero, List.set_cons_succ, i64_w, i32_w]
          rfl
        refine pure_ (i := 6) (N := (some 53)) (v := undef) (a' := ?_) #[true, true, true, true, true, true, true, false, false, false, false, false, false, false, false, false, false, false, false, false] rfl rfl (any_of HT_.out (by kernel_rfl)) (fun _ _ _ h => h) (Or.inr ⟨by rfl, rfl⟩) ?_ ?_
        rotate_left
        · simp only [Act.put, List.setIfInBounds_toArray, List.set_cons_zero, List.set_cons_succ, i64_w, i32_w]
          rfl
        refine pure_ (i := 7) (N := (some 54)) (v := undef) (a' := ?_) #[true, true, true, true, true, true, true, true, false, false, false, false, false, false, false, false, false, false, false, false] rfl rfl (any_of HT_.out (by kernel_rfl)) (fun _ _ _ h => h) (Or.inr ⟨by rfl, rfl⟩) ?_ ?_
        rotate_left
        · simp only [Act.put, List.setIfInBounds_toArray, List.set_cons_zero, List.set_cons_succ, i64_w, i32_w]
          rfl
        refine pure_ (i := 8) (N := (some 55)) (v := undef) (a' := ?_) #[true, true, true, true, true, true, true, true, true, false, false, false, false, false, false, false, false, false, false, false] rfl rfl (any_of HT_.out (by kernel_rfl)) (fun _ _ _ h => h) (Or.inr ⟨by rfl, rfl⟩) ?_ ?_
        rotate_left
        · simp only [Act.put, List.setIfInBounds_toArray, List.set_cons_zero, List.set_cons_succ, i64_w, i32_w]
          rfl
        refine pure_ (i := 9) (N := (some 56)) (v := undef) (a' := ?_) #[true, true, true, true, true, true, true, true, true, true, false, false, false, false, false, false, false, false, false, false] rfl rfl (any_of HT_.out (by kernel_rfl)) (fun _ _ _ h => h) (Or.inr ⟨by rfl, rfl⟩) ?_ ?_
        rotate_left
        · simp only [Act.put, List.setIfInBounds_toArray, List.set_cons_zero, List.set_cons_succ, i64_w, i32_w]
          rfl
        refine pure_ (i := 10) (N := (some 57)) (v := undef) (a' := ?_) #[true, true, true, true, true, true, true, true, true, true, true, false, false, false, false, false, false, false, false, false] rfl rfl (any_of HT_.out (by kernel_rfl)) (fun _ _ _ h => h) (Or.inr ⟨by rfl, rfl⟩) ?_ ?_
        rotate_left
        · simp only [Act.put, List.setIfInBounds_toArray, List.set_cons_zero, List.set_cons_succ, i64_w, i32_w]
          rfl
        refine pure_ (i := 11) (N := (some 58)) (v := undef) (a' := ?_) #[true, true, true, true, true, true, true, true, true, true, true, true, false, false, false, false, false, false, false, false] rfl rfl (any_of HT_.out (by kernel_rfl)) (fun _ _ _ h => h) (Or.inr ⟨by rfl, rfl⟩) ?_ ?_
        rotate_left
        · simp only [Act.put, List.setIfInBounds_toArray, List.set_cons_zero, List.set_cons_succ, i64_w, i32_w]
          rfl
        refine pure_ (i := 12) (N := (some 59)) (v := ?_) (a' := ?_) #[true, true, true, true, true, true, true, true, true, true, true, true, true, false, false, false, false, false, false, false] rfl rfl (any_of HT_.out (by kernel_rfl)) (fun _ _ _ h => h) (Or.inl ⟨by rfl, ?_⟩) ?_ ?_
        rotate_left
        · intro w'
          go_simp
          with_reducible rfl
        rotate_left
        · simp only [Act.put, List.setIfInBounds_toArray, List.set_cons_zero, List.set_cons_succ, i64_w, i32_w]
          rfl
        refine pure_ (i := 13) (N := (some 60)) (v := ?_) (a' := ?_) #[true, true, true, true, true, true, true, true, true, true, true, true, true, true, false, false, false, false, false, false] rfl rfl (any_of HT_.out (by kernel_rfl)) (fun _ _ _ h => h) (Or.inl ⟨by rfl, ?_⟩) ?_ ?_
        rotate_left
        · intro w'
          go_simp
          with_reducible rfl
        rotate_left
        · simp only [Act.put, List.setIfInBounds_toArray, List.set_cons_zero, List.set_cons_succ, i64_w, i32_w]
          rfl
        refine pure_ (i := 14) (N := (some 61)) (v := undef) (a' := ?_) #[true, true, true, true, true, true, true, true, true, true, true, true, true, true, true, false, false, false, false, false] rfl rfl (any_of HT_.out (by kernel_rfl)) (fun _ _ _ h => h) (Or.inr ⟨by rfl, rfl⟩) ?_ ?_
        rotate_left
        · simp only [Act.put, List.setIfInBounds_toArray, List.set_cons_zero, List.set_cons_succ, i64_w, i32_w]
          rfl
        refine pure_ (i := 15) (N := (some 62)) (v := undef) (a' := ?_) #[true, true, true, true, true, true, true, true, true, true, true, true, true, true, true, true, false, false, false, false] rfl rfl (any_of HT_.out (by kernel_rfl)) (fun _ _ _ h => h) (Or.inr ⟨by rfl, rfl⟩) ?_ ?_
        rotate_left
        · simp only [Act.put, List.setIfInBounds_toArray, List.set_cons_zero, List.set_cons_succ, i64_w, i32_w]
          rfl
        refine pure_ (i := 16) (N := (some 63)) (v := undef) (a' := ?_) #[true, true, true, true, true, true, true, true, true, true, true, true, true, true, true, true, true, false, false, false] rfl rfl (any_of HT_.out (by kernel_rfl)) (fun _ _ _ h => h) (Or.inr ⟨by rfl, rfl⟩) ?_ ?_
        rotate_left
        · simp only [Act.put, List.setIfInBounds_toArray, List.set_cons_zero, List.set_cons_succ, i64_w, i32_w]
          rfl
        refine pure_ (i := 17) (N := (some 64)) (v := undef) (a' := ?_) #[true, true, true, true, true, true, true, true, true, true, true, true, true, true, true, true, true, true, false, false] rfl rfl (any_of HT_.out (by kernel_rfl)) (fun _ _ _ h => h) (Or.inr ⟨by rfl, rfl⟩) ?_ ?_
        rotate_left
        · simp only [Act.put, List.setIfInBounds_toArray, List.set_cons_zero, List.set_cons_succ, i64_w, i32_w]
          rfl
        refine pure_ (i := 18) (N := (some 65)) (v := undef) (a' := ?_) #[true, true, true, true, true, true, true, true, true, true, true, true, true, true, true, true, true, true, true, false] rfl rfl (any_of HT_.out (by kernel_rfl)) (fun _ _ _ h => h) (Or.inr ⟨by rfl, rfl⟩) ?_ ?_
        rotate_left
        · simp only [Act.put, List.setIfInBounds_toArray, List.set_cons_zero, List.set_cons_succ, i64_w, i32_w]
          rfl
        refine pure_ (i := 19) (N := (some 66)) (v := ?_) (a' := ?_) #[true, true, true, true, true, true, true, true, true, true, true, true, true, true, true, true, true, true, true, true] rfl rfl (any_of HT_.out (by kernel_rfl)) (fun _ _ _ h => h) (Or.inl ⟨by rfl, ?_⟩) ?_ ?_
        rotate_left
        · intro w'
          go_simp
          with_reducible rfl
        rotate_left
        · simp only [Act.put, List.setIfInBounds_toArray, List.set_cons_zero, List.set_cons_succ, i64_w, i32_w]
          rfl
        refine done_ (done_of HT_.out (by kernel_rfl)) ?_
        have HBF := Aside0.mk hHeld.1
        replace H8 := Aside0.mk (H8.out.below HBF.out)
        replace HBQ := Aside0.mk (HBQ.out.trans (HBF.out.mono HBQ.out.size))
        obtain ⟨f0, f1, f2, f3, f4, f5⟩ := H8.out.frozen
        obtain ⟨d0, d1, d2, d3, d4, d5⟩ := H8.out.cells
        clear hHeld
        go_wp2_with fail
        have hno := follow_noI (w0 := w0) (o := followR size x0 way t) H8.out HBQ.out HQ.out HNO.out
        exact bodyPost_ret (results_rfollow _ q z40 z6 false hno.1 _ rfl rfl) rfl hno.2
      have HCR := Aside0.mk hcr
      rw [decide_eq_true hcr] at HCANC
      clear hcr
      by_cases heq : r.f0 = e
      case neg =>
        have HNO := Aside0.mk (show followR size x0 way t = none by
          rw [HF.out, HDR.out]
          unfold followS
          split
          · rfl
          · exact if_neg (fun hc => heq (by rw [HEH.out, HHH.out]; exact hc.1)))
        have hne : (r.f0 != e) = true := by simpa using heq
        clear heq
        refine start_ (n := 20) (S := fun w' => Below wq.heap.size wq w' ∧ w'.cell? ⟨b, 0, none⟩ = some (.int .i64 r.f0) ∧ w'.cell? ⟨b, 1, none⟩ = some (.int .i64 r.f1) ∧ w'.cell? ⟨b, 2, none⟩ = some (.slice pr.A2 r.f2.length pr.c2) ∧ w'.cell? ⟨b, 3, none⟩ = some (.int .i64 r.f3) ∧ w'.cell? ⟨b, 4, none⟩ = some (.slice pr.A4 r.f4.length pr.c4) ∧ w'.cell? ⟨b, 5, none⟩ = some (.slice pr.A5 r.f5.length pr.c5) ∧ w'.cell? ⟨g, 0, none⟩ = some (.int .i64 x.f0) ∧ w'.cell? ⟨g, 1, none⟩ = some (.int .i64 x.f1) ∧ w'.cell? ⟨g, 2, none⟩ = some (.slice p.A2 x.f2.length p.c2) ∧ w'.cell? ⟨g, 3, none⟩ = some (.int .i64 x.f3) ∧ w'.cell? ⟨g, 4, none⟩ = some (.slice p.A4 x.f4.length p.c4) ∧ w'.cell? ⟨g, 5, none⟩ = some (.slice p.A5 x.f5.length p.c5) ∧ w'.cell? (ade.add k) = some (.int .i64 e)) (ds := []) #[false, false, false, false, false, false, false, false, false, false, false, false, false, false, false, false, false, false, false, false] (by kernel_rfl) rfl rfl (HKEEP.out wq.drew (below_drew (Below.refl _ _))) (fun hHeld => ?_); refine with_tabW rfollow_tab10 rfollow_bits10 (fun HT_ HW_ => ?_)
        generalize hgw : wq.drew = w18 at hHeld ⊢
        clear hgw
        refine pure_ (i := 0) (N := (some 47)) (v := ?_) (a' := ?_) #[true, false, false, false, false, false, false, false, false, false, false, false, false, false, false, false, false, false, false, false] rfl rfl (any_of HT_.out (by kernel_rfl)) (fun _ _ _ h => h) (Or.inl ⟨by rfl, ?_⟩) ?_ ?_
        rotate_left
        · intro w'
          go_simp
          with_reducible rfl
        rotate_left
        · simp only [Act.put, List.setIfInBounds_toArray, List.set_cons_zero, List.set_cons_succ, i64_w, i32_w]
          rfl
        refine take_ (i := 1) (N := (some 48)) (v := ?_) (a' := ?_) #[true, true, false, false, false, false, false, false, false, false, false, false, false, false, false, false, false, false, false, false] rfl rfl (take_ofW HT_.out HW_.out (by kernel_rfl)) (fun _ _ _ h => h) (Or.inl ⟨by rfl, ?_⟩) hHeld ?_ ?_
        rotate_left
        · rintro w' ⟨hbl, s0, s1, s2, s3, s4, s5, s6, s7, s8, s9, s10, s11, s12⟩
          go_simp
          with_reducible rfl
        rotate_left
        · simp only [Act.put, List.setIfInBounds_toArray, List.set_cons_zero, List.set_cons_succ, i64_w, i32_w]
          rfl
        refine one_ (i := 2) (N := (some 49)) #[true, true, true, false, false, false, false, false, false, false, false, false, false, false, false, false, false, false, false, false] rfl rfl (one_of HT_.out (by kernel_rfl)) (by decide) (fun K hK => ?_)
        refine goes_ Tryd.func64 (by kernel_rfl) rfl #[.int .i64 size, .agg #[.int .i64 r.f0, .int .i64 r.f1, .slice pr.A2 r.f2.length pr.c2, .int .i64 r.f3, .slice pr.A4 r.f4.length pr.c4, .slice pr.A5 r.f5.length pr.c5]] (by rfl) rfl rfl (by (try simp only [List.map_toArray, List.map_cons, List.map_nil]); first | done | rfl) ?_
        with_reducible refine (HCANC.out _ hHeld.1).mono ?_
        rintro e8 w8 ⟨rfl, hB8⟩
        refine ⟨_, rfl, ?_⟩
        refine hK.out _ _ (HKEEP.out w8 (keep_trans hHeld.1 hB8)) (fun hHeld => ?_)
        clear hK K
        refine norm_ (a' := ?_) ?_ ?_
        rotate_left
        · show Act.put _ (some 49) _ = _
          simp only [Act.put, List.setIfInBounds_toArray, List.set_cons_zero, List.set_cons_succ, i64_w, i32_w]
          rfl
        refine pure_ (i := 3) (N := (some 50)) (v := ?_) (a' := ?_) #[true, true, true, true, false, false, false, false, false, false, false, false, false, false, false, false, false, false, false, false] rfl rfl (any_of HT_.out (by kernel_rfl)) (fun _ _ _ h => h) (Or.inl ⟨by rfl, ?_⟩) ?_ ?_
        rotate_left
        · intro w'
          go_simp
          with_reducible rfl
        rotate_left
        · simp only [Act.put, List.setIfInBounds_toArray, List.set_cons_zero, List.set_cons_succ, i64_w, i32_w]
          rfl
        refine pure_ (i := 4) (N := (some 51)) (v := ?_) (a' := ?_) #[true, true, true, true, true, false, false, false, false, false, false, false, false, false, false, false, false, false, false, false] rfl rfl (any_of HT_.out (by kernel_rfl)) (fun _ _ _ h => h) (Or.inl ⟨by rfl, ?_⟩) ?_ ?_
        rotate_left
        · intro w'
          go_simp
          with_reducible rfl
        rotate_left
        · simp only [Act.put, List.setIfInBounds_toArray, List.set_cons_zero, List.set_cons_succ, i64_w, i32_w]
          rfl
        refine pure_ (i := 5) (N := (some 52)) (v := ?_) (a' := ?_) #[true, true, true, true, true, true, false, false, false, false, false, false, false, false, false, false, false, false, false, false] rfl rfl (any_of HT_.out (by kernel_rfl)) (fun _ _ _ h => h) (Or.inl ⟨by rfl, ?_⟩) ?_ ?_
        rotate_left
        · intro w'
          go_simp
          with_reducible rfl
        rotate_left
        · simp only [Act.put, List.setIfInBounds_toArray, List.set_cons_zero, List.set_cons_succ, i64_w, i32_w]
          rfl
        refine take_ (i := 6) (N := (some 53)) (v := ?_) (a' := ?_) #[true, true, true, true, true, true, true, false, false, false, false, false, false, false, false, false, false, false, false, false] rfl rfl (take_ofW HT_.out HW_.out (by kernel_rfl)) (fun _ _ _ h => h) (Or.inl ⟨by rfl, ?_⟩) hHeld ?_ ?_
        rotate_left
        · rintro w' ⟨hbl, s0, s1, s2, s3, s4, s5, s6, s7, s8, s9, s10, s11, s12⟩
          go_simp
          with_reducible rfl
        rotate_left
        · simp only [Act.put, List.setIfInBounds_toArray, List.set_cons_zero, List.set_cons_succ, i64_w, i32_w]
          rfl
        refine pure_ (i := 7) (N := (some 54)) (v := ?_) (a' := ?_) #[true, true, true, true, true, true, true, true, false, false, false, false, false, false, false, false, false, false, false, false] rfl rfl (any_of HT_.out (by kernel_rfl)) (fun _ _ _ h => h) (Or.inl ⟨by rfl, ?_⟩) ?_ ?_
        rotate_left
        · intro w'
          go_simp
          with_reducible rfl
        rotate_left
        · simp only [Act.put, List.setIfInBounds_toArray, List.set_cons_zero, List.set_cons_succ, i64_w, i32_w]
          rfl
        refine pure_ (i := 8) (N := (some 55)) (v := ?_) (a' := ?_) #[true, true, true, true, true, true, true, true, true, false, false, false, false, false, false, false, false, false, false, false] rfl rfl (any_of HT_.out (by kernel_rfl)) (fun _ _ _ h => h) (Or.inl ⟨by rfl, ?_⟩) ?_ ?_
        rotate_left
        · intro w'
          go_simp
          with_reducible rfl
        rotate_left
        · simp only [Act.put, List.setIfInBounds_toArray, List.set_cons_zero, List.set_cons_succ, i64_w, i32_w]
          rfl
        refine pure_ (i := 9) (N := (some 56)) (v := ?_) (a' := ?_) #[true, true, true, true, true, true, true, true, true, true, false, false, false, false, false, false, false, false, false, false] rfl rfl (any_of HT_.out (by kernel_rfl)) (fun _ _ _ h => h) (Or.inl ⟨by rfl, ?_⟩) ?_ ?_
        rotate_left
        · intro w'
          go_simp
          with_reducible rfl
        rotate_left
        · simp only [Act.put, List.setIfInBounds_toArray, List.set_cons_zero, List.set_cons_succ, i64_w, i32_w]
          rfl
        refine take_ (i := 10) (N := (some 57)) (v := ?_) (a' := ?_) #[true, true, true, true, true, true, true, true, true, true, true, false, false, false, false, false, false, false, false, false] rfl rfl (take_ofW HT_.out HW_.out (by kernel_rfl)) (fun _ _ _ h => h) (Or.inl ⟨by rfl, ?_⟩) hHeld ?_ ?_
        rotate_left
        · rintro w' ⟨hbl, s0, s1, s2, s3, s4, s5, s6, s7, s8, s9, s10, s11, s12⟩
          go_simp
          with_reducible rfl
        rotate_left
        · simp only [Act.put, List.setIfInBounds_toArray, List.set_cons_zero, List.set_cons_succ, i64_w, i32_w]
          rfl
        refine pure_ (i := 11) (N := (some 58)) (v := ?_) (a' := ?_) #[true, true, true, true, true, true, true, true, true, true, true, true, false, false, false, false, false, false, false, false] rfl rfl (any_of HT_.out (by kernel_rfl)) (fun _ _ _ h => h) (Or.inl ⟨by rfl, ?_⟩) ?_ ?_
        rotate_left
        · intro w'
          go_simp
          with_reducible rfl
        rotate_left
        · simp only [Act.put, List.setIfInBounds_toArray, List.set_cons_zero, List.set_cons_succ, i64_w, i32_w]
          rfl
        refine pure_ (i := 12) (N := (some 59)) (v := ?_) (a' := ?_) #[true, true, true, true, true, true, true, true, true, true, true, true, true, false, false, false, false, false, false, false] rfl rfl (any_of HT_.out (by kernel_rfl)) (fun _ _ _ h => h) (Or.inl ⟨by rfl, ?_⟩) ?_ ?_
        rotate_left
        · intro w'
          go_simp
          with_reducible rfl
        rotate_left
        · simp only [Act.put, List.setIfInBounds_toArray, List.set_cons_zero, List.set_cons_succ, i64_w, i32_w]
          rfl
        refine pure_ (i := 13) (N := (some 60)) (v := ?_) (a' := ?_) #[true, true, true, true, true, true, true, true, true, true, true, true, true, true, false, false, false, false, false, false] rfl rfl (any_of HT_.out (by kernel_rfl)) (fun _ _ _ h => h) (Or.inl ⟨by rfl, ?_⟩) ?_ ?_
        rotate_left
        · intro w'
          go_simp
          with_reducible rfl
        rotate_left
        · simp only [Act.put, List.setIfInBounds_toArray, List.set_cons_zero, List.set_cons_succ, i64_w, i32_w]
          rfl
        refine pure_ (i := 14) (N := (some 61)) (v := undef) (a' := ?_) #[true, true, true, true, true, true, true, true, true, true, true, true, true, true, true, false, false, false, false, false] rfl rfl (any_of HT_.out (by kernel_rfl)) (fun _ _ _ h => h) (Or.inr ⟨by rfl, rfl⟩) ?_ ?_
        rotate_left
        · simp only [Act.put, List.setIfInBounds_toArray, List.set_cons_zero, List.set_cons_succ, i64_w, i32_w]
          rfl
        refine pure_ (i := 15) (N := (some 62)) (v := undef) (a' := ?_) #[true, true, true, true, true, true, true, true, true, true, true, true, true, true, true, true, false, false, false, false] rfl rfl (any_of HT_.out (by kernel_rfl)) (fun _ _ _ h => h) (Or.inr ⟨by rfl, rfl⟩) ?_ ?_
        rotate_left
        · simp only [Act.put, List.setIfInBounds_toArray, List.set_cons_zero, List.set_cons_succ, i64_w, i32_w]
          rfl
        refine pure_ (i := 16) (N := (some 63)) (v := undef) (a' := ?_) #[true, true, true, true, true, true, true, true, true, true, true, true, true, true, true, true, true, false, false, false] rfl rfl (any_of HT_.out (by kernel_rfl)) (fun _ _ _ h => h) (Or.inr ⟨by rfl, rfl⟩) ?_ ?_
        rotate_left
        · simp only [Act.put, List.setIfInBounds_toArray, List.set_cons_zero, List.set_cons_succ, i64_w, i32_w]
          rfl
        refine pure_ (i := 17) (N := (some 64)) (v := undef) (a' := ?_) #[true, true, true, true, true, true, true, true, true, true, true, true, true, true, true, true, true, true, false, false] rfl rfl (any_of HT_.out (by kernel_rfl)) (fun _ _ _ h => h) (Or.inr ⟨by rfl, rfl⟩) ?_ ?_
        rotate_left
        · simp only [Act.put, List.setIfInBounds_toArray, List.set_cons_zero, List.set_cons_succ, i64_w, i32_w]
          rfl
        refine pure_ (i := 18) (N := (some 65)) (v := undef) (a' := ?_) #[true, true, true, true, true, true, true, true, true, true, true, true, true, true, true, true, true, true, true, false] rfl rfl (any_of HT_.out (by kernel_rfl)) (fun _ _ _ h => h) (Or.inr ⟨by rfl, rfl⟩) ?_ ?_
        rotate_left
        · simp only [Act.put, List.setIfInBounds_toArray, List.set_cons_zero, List.set_cons_succ, i64_w, i32_w]
          rfl
        refine pure_ (i := 19) (N := (some 66)) (v := ?_) (a' := ?_) #[true, true, true, true, true, true, true, true, true, true, true, true, true, true, true, true, true, true, true, true] rfl rfl (any_of HT_.out (by kernel_rfl)) (fun _ _ _ h => h) (Or.inl ⟨by rfl, ?_⟩) ?_ ?_
        rotate_left
        · intro w'
          go_simp
          with_reducible rfl
        rotate_left
        · simp only [Act.put, List.setIfInBounds_toArray, List.set_cons_zero, List.set_cons_succ, i64_w, i32_w]
          rfl
        refine done_ (done_of HT_.out (by kernel_rfl)) ?_
        have HBF := Aside0.mk hHeld.1
        replace H8 := Aside0.mk (H8.out.below HBF.out)
        replace HBQ := Aside0.mk (HBQ.out.trans (HBF.out.mono HBQ.out.size))
        obtain ⟨f0, f1, f2, f3, f4, f5⟩ := H8.out.frozen
        obtain ⟨d0, d1, d2, d3, d4, d5⟩ := H8.out.cells
        clear hHeld
        go_wp2_with fail
        have hno := follow_noI (w0 := w0) (o := followR size x0 way t) H8.out HBQ.out HQ.out HNO.out
        exact bodyPost_ret (results_rfollow _ q z40 z6 false hno.1 _ rfl rfl) rfl hno.2
      have hne : (r.f0 != e) = false := by simpa using heq
      have HLNK := Aside0.mk (show ∀ W : World, Below wq.heap.size wq W → Calls Tryd.prog 65 #[.int .i64 size, .agg #[.int .i64 x.f0, .int .i64 x.f1, .slice p.A2 x.f2.length p.c2, .int .i64 x.f3, .slice p.A4 x.f4.length p.c4, .slice p.A5 x.f5.length p.c5], .agg #[.int .i64 r.f0, .int .i64 r.f1, .slice pr.A2 r.f2.length pr.c2, .int .i64 r.f3, .slice pr.A4 r.f4.length pr.c4, .slice pr.A5 r.f5.length pr.c5]] W fun e8 w8 => e8 = .returned (.bool (decide (L = hashR size r))) ∧ Below W.heap.size W w8 from fun W hb => by
        have hq := HBQ.out.trans (hb.mono HBQ.out.size)
        have hc := HRC0.out.below hq
        have hx0 := HX.out.1.2.1
        have hlj := HLJ.out
        rw [links_length] at hlj
        rw [← HSTR.out]
        refine linked_calls 200 size x.f0 x.f1 p.A2 p.c2 x.f2 x.f3 p.A4 p.c4 x.f4 p.A5 p.c5 x.f5 r.f0 r.f1 pr.A2 pr.c2 r.f2 r.f3 pr.A4 pr.c4 r.f4 pr.A5 pr.c5 r.f5 (links x.f0.toNat) (hashR size r) h W (HC0.out.below hq).g5 hc.g2 hc.l2 hc.g4 hc.l4 hc.g5 hc.l5 HLK.out (rhashR_f size r HRO.out 200 (by decide)) HLJ.out H5L.out ?_ ?_
        · rw [rd_links _ _ hlj, heq, HEH.out, Int.toNat_of_nonneg hx0.1]
        · intro i hi
          rw [rd_links _ _ (by omega), heq, HEH.out, Int.toNat_of_nonneg hx0.1]
          have h1 : p2 (i + 1) ≤ p2 h := p2_mono hi
          have h2 := p2_succ i
          have h3 := p2_pos i
          omega)
      have HEQ := Aside0.mk heq
      clear heq
      by_cases hlk : L = hashR size r
      case neg =>
        have HNO := Aside0.mk (show followR size x0 way t = none by
          rw [HF.out, HDR.out]
          unfold followS
          split
          · rfl
          · exact if_neg (fun hc => hlk (by rw [HLL.out, HHH.out]; exact hc.2.2.symm)))
        rw [decide_eq_false hlk] at HLNK
        clear hlk
        refine start_ (n := 20) (S := fun w' => Below wq.heap.size wq w' ∧ w'.cell? ⟨b, 0, none⟩ = some (.int .i64 r.f0) ∧ w'.cell? ⟨b, 1, none⟩ = some (.int .i64 r.f1) ∧ w'.cell? ⟨b, 2, none⟩ = some (.slice pr.A2 r.f2.length pr.c2) ∧ w'.cell? ⟨b, 3, none⟩ = some (.int .i64 r.f3) ∧ w'.cell? ⟨b, 4, none⟩ = some (.slice pr.A4 r.f4.length pr.c4) ∧ w'.cell? ⟨b, 5, none⟩ = some (.slice pr.A5 r.f5.length pr.c5) ∧ w'.cell? ⟨g, 0, none⟩ = some (.int .i64 x.f0) ∧ w'.cell? ⟨g, 1, none⟩ = some (.int .i64 x.f1) ∧ w'.cell? ⟨g, 2, none⟩ = some (.slice p.A2 x.f2.length p.c2) ∧ w'.cell? ⟨g, 3, none⟩ = some (.int .i64 x.f3) ∧ w'.cell? ⟨g, 4, none⟩ = some (.slice p.A4 x.f4.length p.c4) ∧ w'.cell? ⟨g, 5, none⟩ = some (.slice p.A5 x.f5.length p.c5) ∧ w'.cell? (ade.add k) = some (.int .i64 e)) (ds := []) #[false, false, false, false, false, false, false, false, false, false, false, false, false, false, false, false, false, false, false, false] (by kernel_rfl) rfl rfl (HKEEP.out wq.drew (below_drew (Below.refl _ _))) (fun hHeld => ?_); refine with_tabW rfollow_tab10 rfollow_bits10 (fun HT_ HW_ => ?_)
        generalize hgw : wq.drew = w18 at hHeld ⊢
        clear hgw
        refine pure_ (i := 0) (N := (some 47)) (v := ?_) (a' := ?_) #[true, false, false, false, false, false, false, false, false, false, false, false, false, false, false, false, false, false, false, false] rfl rfl (any_of HT_.out (by kernel_rfl)) (fun _ _ _ h => h) (Or.inl ⟨by rfl, ?_⟩) ?_ ?_
        rotate_left
        · intro w'
          go_simp
          with_reducible rfl
        rotate_left
        · simp only [Act.put, List.setIfInBounds_toArray, List.set_cons_zero, List.set_cons_succ, i64_w, i32_w]
          rfl
        refine take_ (i := 1) (N := (some 48)) (v := ?_) (a' := ?_) #[true, true, false, false, false, false, false, false, false, false, false, false, false, false, false, false, false, false, false, false] rfl rfl (take_ofW HT_.out HW_.out (by kernel_rfl)) (fun _ _ _ h => h) (Or.inl ⟨by rfl, ?_⟩) hHeld ?_ ?_
        rotate_left
        · rintro w' ⟨hbl, s0, s1, s2, s3, s4, s5, s6, s7, s8, s9, s10, s11, s12⟩
          go_simp
          with_reducible rfl
        rotate_left
        · simp only [Act.put, List.setIfInBounds_toArray, List.set_cons_zero, List.set_cons_succ, i64_w, i32_w]
          rfl
        refine one_ (i := 2) (N := (some 49)) #[true, true, true, false, false, false, false, false, false, false, false, false, false, false, false, false, false, false, false, false] rfl rfl (one_of HT_.out (by kernel_rfl)) (by decide) (fun K hK => ?_)
        refine goes_ Tryd.func64 (by kernel_rfl) rfl #[.int .i64 size, .agg #[.int .i64 r.f0, .int .i64 r.f1, .slice pr.A2 r.f2.length pr.c2, .int .i64 r.f3, .slice pr.A4 r.f4.length pr.c4, .slice pr.A5 r.f5.length pr.c5]] (by rfl) rfl rfl (by (try simp only [List.map_toArray, List.map_cons, List.map_nil]); first | done | rfl) ?_
        with_reducible refine (HCANC.out _ hHeld.1).mono ?_
        rintro e8 w8 ⟨rfl, hB8⟩
        refine ⟨_, rfl, ?_⟩
        refine hK.out _ _ (HKEEP.out w8 (keep_trans hHeld.1 hB8)) (fun hHeld => ?_)
        clear hK K
        refine norm_ (a' := ?_) ?_ ?_
        rotate_left
        · show Act.put _ (some 49) _ = _
          simp only [Act.put, List.setIfInBounds_toArray, List.set_cons_zero, List.set_cons_succ, i64_w, i32_w]
          rfl
        refine pure_ (i := 3) (N := (some 50)) (v := ?_) (a' := ?_) #[true, true, true, true, false, false, false, false, false, false, false, false, false, false, false, false, false, false, false, false] rfl rfl (any_of HT_.out (by kernel_rfl)) (fun _ _ _ h => h) (Or.inl ⟨by rfl, ?_⟩) ?_ ?_
        rotate_left
        · intro w'
          go_simp
          with_reducible rfl
        rotate_left
        · simp only [Act.put, List.setIfInBounds_toArray, List.set_cons_zero, List.set_cons_succ, i64_w, i32_w]
          rfl
        refine pure_ (i := 4) (N := (some 51)) (v := ?_) (a' := ?_) #[true, true, true, true, true, false, false, false, false, false, false, false, false, false, false, false, false, false, false, false] rfl rfl (any_of HT_.out (by kernel_rfl)) (fun _ _ _ h => h) (Or.inl ⟨by rfl, ?_⟩) ?_ ?_
        rotate_left
        · intro w'
          go_simp
          with_reducible rfl
        rotate_left
        · simp only [Act.put, List.setIfInBounds_toArray, List.set_cons_zero, List.set_cons_succ, i64_w, i32_w]
          rfl
        refine pure_ (i := 5) (N := (some 52)) (v := ?_) (a' := ?_) #[true, true, true, true, true, true, false, false, false, false, false, false, false, false, false, false, false, false, false, false] rfl rfl (any_of HT_.out (by kernel_rfl)) (fun _ _ _ h => h) (Or.inl ⟨by rfl, ?_⟩) ?_ ?_
        rotate_left
        · intro w'
          go_simp
          with_reducible rfl
        rotate_left
        · simp only [Act.put, List.setIfInBounds_toArray, List.set_cons_zero, List.set_cons_succ, i64_w, i32_w]
          rfl
        refine take_ (i := 6) (N := (some 53)) (v := ?_) (a' := ?_) #[true, true, true, true, true, true, true, false, false, false, false, false, false, false, false, false, false, false, false, false] rfl rfl (take_ofW HT_.out HW_.out (by kernel_rfl)) (fun _ _ _ h => h) (Or.inl ⟨by rfl, ?_⟩) hHeld ?_ ?_
        rotate_left
        · rintro w' ⟨hbl, s0, s1, s2, s3, s4, s5, s6, s7, s8, s9, s10, s11, s12⟩
          go_simp
          with_reducible rfl
        rotate_left
        · simp only [Act.put, List.setIfInBounds_toArray, List.set_cons_zero, List.set_cons_succ, i64_w, i32_w]
          rfl
        refine pure_ (i := 7) (N := (some 54)) (v := ?_) (a' := ?_) #[true, true, true, true, true, true, true, true, false, false, false, false, false, false, false, false, false, false, false, false] rfl rfl (any_of HT_.out (by kernel_rfl)) (fun _ _ _ h => h) (Or.inl ⟨by rfl, ?_⟩) ?_ ?_
        rotate_left
        · intro w'
          go_simp
          with_reducible rfl
        rotate_left
        · simp only [Act.put, List.setIfInBounds_toArray, List.set_cons_zero, List.set_cons_succ, i64_w, i32_w]
          rfl
        refine pure_ (i := 8) (N := (some 55)) (v := ?_) (a' := ?_) #[true, true, true, true, true, true, true, true, true, false, false, false, false, false, false, false, false, false, false, false] rfl rfl (any_of HT_.out (by kernel_rfl)) (fun _ _ _ h => h) (Or.inl ⟨by rfl, ?_⟩) ?_ ?_
        rotate_left
        · intro w'
          go_simp
          with_reducible rfl
        rotate_left
        · simp only [Act.put, List.setIfInBounds_toArray, List.set_cons_zero, List.set_cons_succ, i64_w, i32_w]
          rfl
        refine pure_ (i := 9) (N := (some 56)) (v := ?_) (a' := ?_) #[true, true, true, true, true, true, true, true, true, true, false, false, false, false, false, false, false, false, false, false] rfl rfl (any_of HT_.out (by kernel_rfl)) (fun _ _ _ h => h) (Or.inl ⟨by rfl, ?_⟩) ?_ ?_
        rotate_left
        · intro w'
          go_simp
          with_reducible rfl
        rotate_left
        · simp only [Act.put, List.setIfInBounds_toArray, List.set_cons_zero, List.set_cons_succ, i64_w, i32_w]
          rfl
        refine take_ (i := 10) (N := (some 57)) (v := ?_) (a' := ?_) #[true, true, true, true, true, true, true, true, true, true, true, false, false, false, false, false, false, false, false, false] rfl rfl (take_ofW HT_.out HW_.out (by kernel_rfl)) (fun _ _ _ h => h) (Or.inl ⟨by rfl, ?_⟩) hHeld ?_ ?_
        rotate_left
        · rintro w' ⟨hbl, s0, s1, s2, s3, s4, s5, s6, s7, s8, s9, s10, s11, s12⟩
          go_simp
          with_reducible rfl
        rotate_left
        · simp only [Act.put, List.setIfInBounds_toArray, List.set_cons_zero, List.set_cons_succ, i64_w, i32_w]
          rfl
        refine pure_ (i := 11) (N := (some 58)) (v := ?_) (a' := ?_) #[true, true, true, true, true, true, true, true, true, true, true, true, false, false, false, false, false, false, false, false] rfl rfl (any_of HT_.out (by kernel_rfl)) (fun _ _ _ h => h) (Or.inl ⟨by rfl, ?_⟩) ?_ ?_
        rotate_left
        · intro w'
          go_simp
          with_reducible rfl
        rotate_left
        · simp only [Act.put, List.setIfInBounds_toArray, List.set_cons_zero, List.set_cons_succ, i64_w, i32_w]
          rfl
        refine pure_ (i := 12) (N := (some 59)) (v := ?_) (a' := ?_) #[true, true, true, true, true, true, true, true, true, true, true, true, true, false, false, false, false, false, false, false] rfl rfl (any_of HT_.out (by kernel_rfl)) (fun _ _ _ h => h) (Or.inl ⟨by rfl, ?_⟩) ?_ ?_
        rotate_left
        · intro w'
          go_simp
          with_reducible rfl
        rotate_left
        · simp only [Act.put, List.setIfInBounds_toArray, List.set_cons_zero, List.set_cons_succ, i64_w, i32_w]
          rfl
        refine pure_ (i := 13) (N := (some 60)) (v := ?_) (a' := ?_) #[true, true, true, true, true, true, true, true, true, true, true, true, true, true, false, false, false, false, false, false] rfl rfl (any_of HT_.out (by kernel_rfl)) (fun _ _ _ h => h) (Or.inl ⟨by rfl, ?_⟩) ?_ ?_
        rotate_left
        · intro w'
          go_simp
          with_reducible rfl
        rotate_left
        · simp only [Act.put, List.setIfInBounds_toArray, List.set_cons_zero, List.set_cons_succ, i64_w, i32_w]
          rfl
        refine pure_ (i := 14) (N := (some 61)) (v := ?_) (a' := ?_) #[true, true, true, true, true, true, true, true, true, true, true, true, true, true, true, false, false, false, false, false] rfl rfl (any_of HT_.out (by kernel_rfl)) (fun _ _ _ h => h) (Or.inl ⟨by rfl, ?_⟩) ?_ ?_
        rotate_left
        · intro w'
          go_simp
          with_reducible rfl
        rotate_left
        · simp only [Act.put, List.setIfInBounds_toArray, List.set_cons_zero, List.set_cons_succ, i64_w, i32_w]
          rfl
        refine take_ (i := 15) (N := (some 62)) (v := ?_) (a' := ?_) #[true, true, true, true, true, true, true, true, true, true, true, true, true, true, true, true, false, false, false, false] rfl rfl (take_ofW HT_.out HW_.out (by kernel_rfl)) (fun _ _ _ h => h) (Or.inl ⟨by rfl, ?_⟩) hHeld ?_ ?_
        rotate_left
        · rintro w' ⟨hbl, s0, s1, s2, s3, s4, s5, s6, s7, s8, s9, s10, s11, s12⟩
          go_simp
          with_reducible rfl
        rotate_left
        · simp only [Act.put, List.setIfInBounds_toArray, List.set_cons_zero, List.set_cons_succ, i64_w, i32_w]
          rfl
        refine take_ (i := 16) (N := (some 63)) (v := ?_) (a' := ?_) #[true, true, true, true, true, true, true, true, true, true, true, true, true, true, true, true, true, false, false, false] rfl rfl (take_ofW HT_.out HW_.out (by kernel_rfl)) (fun _ _ _ h => h) (Or.inl ⟨by rfl, ?_⟩) hHeld ?_ ?_
        rotate_left
        · rintro w' ⟨hbl, s0, s1, s2, s3, s4, s5, s6, s7, s8, s9, s10, s11, s12⟩
          go_simp
          with_reducible rfl
        rotate_left
        · simp only [Act.put, List.setIfInBounds_toArray, List.set_cons_zero, List.set_cons_succ, i64_w, i32_w]
          rfl
        refine one_ (i := 17) (N := (some 64)) #[true, true, true, true, true, true, true, true, true, true, true, true, true, true, true, true, true, true, false, false] rfl rfl (one_of HT_.out (by kernel_rfl)) (by decide) (fun K hK => ?_)
        refine goes_ Tryd.func65 (by kernel_rfl) rfl #[.int .i64 size, .agg #[.int .i64 x.f0, .int .i64 x.f1, .slice p.A2 x.f2.length p.c2, .int .i64 x.f3, .slice p.A4 x.f4.length p.c4, .slice p.A5 x.f5.length p.c5], .agg #[.int .i64 r.f0, .int .i64 r.f1, .slice pr.A2 r.f2.length pr.c2, .int .i64 r.f3, .slice pr.A4 r.f4.length pr.c4, .slice pr.A5 r.f5.length pr.c5]] (by rfl) rfl rfl (by (try simp only [List.map_toArray, List.map_cons, List.map_nil]); first | done | rfl) ?_
        with_reducible refine (HLNK.out _ hHeld.1).mono ?_
        rintro e8 w8 ⟨rfl, hB8⟩
        refine ⟨_, rfl, ?_⟩
        refine hK.out _ _ (HKEEP.out w8 (keep_trans hHeld.1 hB8)) (fun hHeld => ?_)
        clear hK K
        refine norm_ (a' := ?_) ?_ ?_
        rotate_left
        · show Act.put _ (some 64) _ = _
          simp only [Act.put, List.setIfInBounds_toArray, List.set_cons_zero, List.set_cons_succ, i64_w, i32_w]
          rfl
        refine pure_ (i := 18) (N := (some 65)) (v := ?_) (a' := ?_) #[true, true, true, true, true, true, true, true, true, true, true, true, true, true, true, true, true, true, true, false] rfl rfl (any_of HT_.out (by kernel_rfl)) (fun _ _ _ h => h) (Or.inl ⟨by rfl, ?_⟩) ?_ ?_
        rotate_left
        · intro w'
          go_simp
          with_reducible rfl
        rotate_left
        · simp only [Act.put, List.setIfInBounds_toArray, List.set_cons_zero, List.set_cons_succ, i64_w, i32_w]
          rfl
        refine pure_ (i := 19) (N := (some 66)) (v := ?_) (a' := ?_) #[true, true, true, true, true, true, true, true, true, true, true, true, true, true, true, true, true, true, true, true] rfl rfl (any_of HT_.out (by kernel_rfl)) (fun _ _ _ h => h) (Or.inl ⟨by rfl, ?_⟩) ?_ ?_
        rotate_left
        · intro w'
          go_simp
          with_reducible rfl
        rotate_left
        · simp only [Act.put, List.setIfInBounds_toArray, List.set_cons_zero, List.set_cons_succ, i64_w, i32_w]
          rfl
        refine done_ (done_of HT_.out (by kernel_rfl)) ?_
        have HBF := Aside0.mk hHeld.1
        replace H8 := Aside0.mk (H8.out.below HBF.out)
        replace HBQ := Aside0.mk (HBQ.out.trans (HBF.out.mono HBQ.out.size))
        obtain ⟨f0, f1, f2, f3, f4, f5⟩ := H8.out.frozen
        obtain ⟨d0, d1, d2, d3, d4, d5⟩ := H8.out.cells
        clear hHeld
        go_wp2_with fail
        have hno := follow_noI (w0 := w0) (o := followR size x0 way t) H8.out HBQ.out HQ.out HNO.out
        exact bodyPost_ret (results_rfollow _ q z40 z6 false hno.1 _ rfl rfl) rfl hno.2
      rw [decide_eq_true hlk] at HLNK
      have HNXT := Aside0.mk (show followR size x0 way t = followS size t r (way.drop (k + 1)) by
        rw [HF.out, HDR.out]
        simp only [followS]
        rw [if_neg (by have := HLX.out; omega), if_pos ⟨by rw [HEQ.out, HEH.out, HHH.out], HCR.out, by rw [← HHH.out, ← HLL.out]; exact hlk.symm⟩])
      clear hlk
      refine start_ (n := 20) (S := fun w' => Below wq.heap.size wq w' ∧ w'.cell? ⟨b, 0, none⟩ = some (.int .i64 r.f0) ∧ w'.cell? ⟨b, 1, none⟩ = some (.int .i64 r.f1) ∧ w'.cell? ⟨b, 2, none⟩ = some (.slice pr.A2 r.f2.length pr.c2) ∧ w'.cell? ⟨b, 3, none⟩ = some (.int .i64 r.f3) ∧ w'.cell? ⟨b, 4, none⟩ = some (.slice pr.A4 r.f4.length pr.c4) ∧ w'.cell? ⟨b, 5, none⟩ = some (.slice pr.A5 r.f5.length pr.c5) ∧ w'.cell? ⟨g, 0, none⟩ = some (.int .i64 x.f0) ∧ w'.cell? ⟨g, 1, none⟩ = some (.int .i64 x.f1) ∧ w'.cell? ⟨g, 2, none⟩ = some (.slice p.A2 x.f2.length p.c2) ∧ w'.cell? ⟨g, 3, none⟩ = some (.int .i64 x.f3) ∧ w'.cell? ⟨g, 4, none⟩ = some (.slice p.A4 x.f4.length p.c4) ∧ w'.cell? ⟨g, 5, none⟩ = some (.slice p.A5 x.f5.length p.c5) ∧ w'.cell? (ade.add k) = some (.int .i64 e)) (ds := []) #[false, false, false, false, false, false, false, false, false, false, false, false, false, false, false, false, false, false, false, false] (by kernel_rfl) rfl rfl (HKEEP.out wq.drew (below_drew (Below.refl _ _))) (fun hHeld => ?_); refine with_tabW rfollow_tab10 rfollow_bits10 (fun HT_ HW_ => ?_)
      generalize hgw : wq.drew = w18 at hHeld ⊢
      clear hgw
      refine pure_ (i := 0) (N := (some 47)) (v := ?_) (a' := ?_) #[true, false, false, false, false, false, false, false, false, false, false, false, false, false, false, false, false, false, false, false] rfl rfl (any_of HT_.out (by kernel_rfl)) (fun _ _ _ h => h) (Or.inl ⟨by rfl, ?_⟩) ?_ ?_
      rotate_left
      · intro w'
        go_simp
        with_reducible rfl
      rotate_left
      · simp only [Act.put, List.setIfInBounds_toArray, List.set_cons_zero, List.set_cons_succ, i64_w, i32_w]
        rfl
      refine take_ (i := 1) (N := (some 48)) (v := ?_) (a' := ?_) #[true, true, false, false, false, false, false, false, false, false, false, false, false, false, false, false, false, false, false, false] rfl rfl (take_ofW HT_.out HW_.out (by kernel_rfl)) (fun _ _ _ h => h) (Or.inl ⟨by rfl, ?_⟩) hHeld ?_ ?_
      rotate_left
      · rintro w' ⟨hbl, s0, s1, s2, s3, s4, s5, s6, s7, s8, s9, s10, s11, s12⟩
        go_simp
        with_reducible rfl
      rotate_left
      · simp only [Act.put, List.setIfInBounds_toArray, List.set_cons_zero, List.set_cons_succ, i64_w, i32_w]
        rfl
      refine one_ (i := 2) (N := (some 49)) #[true, true, true, false, false, false, false, false, false, false, false, false, false, false, false, false, false, false, false, false] rfl rfl (one_of HT_.out (by kernel_rfl)) (by decide) (fun K hK => ?_)
      refine goes_ Tryd.func64 (by kernel_rfl) rfl #[.int .i64 size, .agg #[.int .i64 r.f0, .int .i64 r.f1, .slice pr.A2 r.f2.length pr.c2, .int .i64 r.f3, .slice pr.A4 r.f4.length pr.c4, .slice pr.A5 r.f5.length pr.c5]] (by rfl) rfl rfl (by (try simp only [List.map_toArray, List.map_cons, List.map_nil]); first | done | rfl) ?_
      with_reducible refine (HCANC.out _ hHeld.1).mono ?_
      rintro e8 w8 ⟨rfl, hB8⟩
      refine ⟨_, rfl, ?_⟩
      refine hK.out _ _ (HKEEP.out w8 (keep_trans hHeld.1 hB8)) (fun hHeld => ?_)
      clear hK K
      refine norm_ (a' := ?_) ?_ ?_
      rotate_left
      · show Act.put _ (some 49) _ = _
        simp only [Act.put, List.setIfInBounds_toArray, List.set_cons_zero, List.set_cons_succ, i64_w, i32_w]
        rfl
      refine pure_ (i := 3) (N := (some 50)) (v := ?_) (a' := ?_) #[true, true, true, true, false, false, false, false, false, false, false, false, false, false, false, false, false, false, false, false] rfl rfl (any_of HT_.out (by kernel_rfl)) (fun _ _ _ h => h) (Or.inl ⟨by rfl, ?_⟩) ?_ ?_
      rotate_left
      · intro w'
        go_simp
        with_reducible rfl
      rotate_left
      · simp only [Act.put, List.setIfInBounds_toArray, List.set_cons_zero, List.set_cons_succ, i64_w, i32_w]
        rfl
      refine pure_ (i := 4) (N := (some 51)) (v := ?_) (a' := ?_) #[true, true, true, true, true, false, false, false, false, false, false, false, false, false, false, false, false, false, false, false] rfl rfl (any_of HT_.out (by kernel_rfl)) (fun _ _ _ h => h) (Or.inl ⟨by rfl, ?_⟩) ?_ ?_
      rotate_left
      · intro w'
        go_simp
        with_reducible rfl
      rotate_left
      · simp only [Act.put, List.setIfInBounds_toArray, List.set_cons_zero, List.set_cons_succ, i64_w, i32_w]
        rfl
      refine pure_ (i := 5) (N := (some 52)) (v := ?_) (a' := ?_) #[true, true, true, true, true, true, false, false, false, false, false, false, false, false, false, false, false, false, false, false] rfl rfl (any_of HT_.out (by kernel_rfl)) (fun _ _ _ h => h) (Or.inl ⟨by rfl, ?_⟩) ?_ ?_
      rotate_left
      · intro w'
        go_simp
        with_reducible rfl
      rotate_left
      · simp only [Act.put, List.setIfInBounds_toArray, List.set_cons_zero, List.set_cons_succ, i64_w, i32_w]
        rfl
      refine take_ (i := 6) (N := (some 53)) (v := ?_) (a' := ?_) #[true, true, true, true, true, true, true, false, false, false, false, false, false, false, false, false, false, false, false, false] rfl rfl (take_ofW HT_.out HW_.out (by kernel_rfl)) (fun _ _ _ h => h) (Or.inl ⟨by rfl, ?_⟩) hHeld ?_ ?_
      rotate_left
      · rintro w' ⟨hbl, s0, s1, s2, s3, s4, s5, s6, s7, s8, s9, s10, s11, s12⟩
        go_simp
        with_reducible rfl
      rotate_left
      · simp only [Act.put, List.setIfInBounds_toArray, List.set_cons_zero, List.set_cons_succ, i64_w, i32_w]
        rfl
      refine pure_ (i := 7) (N := (some 54)) (v := ?_) (a' := ?_) #[true, true, true, true, true, true, true, true, false, false, false, false, false, false, false, false, false, false, false, false] rfl rfl (any_of HT_.out (by kernel_rfl)) (fun _ _ _ h => h) (Or.inl ⟨by rfl, ?_⟩) ?_ ?_
      rotate_left
      · intro w'
        go_simp
        with_reducible rfl
      rotate_left
      · simp only [Act.put, List.setIfInBounds_toArray, List.set_cons_zero, List.set_cons_succ, i64_w, i32_w]
        rfl
      refine pure_ (i := 8) (N := (some 55)) (v := ?_) (a' := ?_) #[true, true, true, true, true, true, true, true, true, false, false, false, false, false, false, false, false, false, false, false] rfl rfl (any_of HT_.out (by kernel_rfl)) (fun _ _ _ h => h) (Or.inl ⟨by rfl, ?_⟩) ?_ ?_
      rotate_left
      · intro w'
        go_simp
        with_reducible rfl
      rotate_left
      · simp only [Act.put, List.setIfInBounds_toArray, List.set_cons_zero, List.set_cons_succ, i64_w, i32_w]
        rfl
      refine pure_ (i := 9) (N := (some 56)) (v := ?_) (a' := ?_) #[true, true, true, true, true, true, true, true, true, true, false, false, false, false, false, false, false, false, false, false] rfl rfl (any_of HT_.out (by kernel_rfl)) (fun _ _ _ h => h) (Or.inl ⟨by rfl, ?_⟩) ?_ ?_
      rotate_left
      · intro w'
        go_simp
        with_reducible rfl
      rotate_left
      · simp only [Act.put, List.setIfInBounds_toArray, List.set_cons_zero, List.set_cons_succ, i64_w, i32_w]
        rfl
      refine take_ (i := 10) (N := (some 57)) (v := ?_) (a' := ?_) #[true, true, true, true, true, true, true, true, true, true, true, false, false, false, false, false, false, false, false, false] rfl rfl (take_ofW HT_.out HW_.out (by kernel_rfl)) (fun _ _ _ h => h) (Or.inl ⟨by rfl, ?_⟩) hHeld ?_ ?_
      rotate_left
      · rintro w' ⟨hbl, s0, s1, s2, s3, s4, s5, s6, s7, s8, s9, s10, s11, s12⟩
        go_simp
        with_reducible rfl
      rotate_left
      · simp only [Act.put, List.setIfInBounds_toArray, List.set_cons_zero, List.set_cons_succ, i64_w, i32_w]
        rfl
      refine pure_ (i := 11) (N := (some 58)) (v := ?_) (a' := ?_) #[true, true, true, true, true, true, true, true, true, true, true, true, false, false, false, false, false, false, false, false] rfl rfl (any_of HT_.out (by kernel_rfl)) (fun _ _ _ h => h) (Or.inl ⟨by rfl, ?_⟩) ?_ ?_
      rotate_left
      · intro w'
        go_simp
        with_reducible rfl
      rotate_left
      · simp only [Act.put, List.setIfInBounds_toArray, List.set_cons_zero, List.set_cons_succ, i64_w, i32_w]
        rfl
      refine pure_ (i := 12) (N := (some 59)) (v := ?_) (a' := ?_) #[true, true, true, true, true, true, true, true, true, true, true, true, true, false, false, false, false, false, false, false] rfl rfl (any_of HT_.out (by kernel_rfl)) (fun _ _ _ h => h) (Or.inl ⟨by rfl, ?_⟩) ?_ ?_
      rotate_left
      · intro w'
        go_simp
        with_reducible rfl
      rotate_left
      · simp only [Act.put, List.setIfInBounds_toArray, List.set_cons_zero, List.set_cons_succ, i64_w, i32_w]
        rfl
      refine pure_ (i := 13) (N := (some 60)) (v := ?_) (a' := ?_) #[true, true, true, true, true, true, true, true, true, true, true, true, true, true, false, false, false, false, false, false] rfl rfl (any_of HT_.out (by kernel_rfl)) (fun _ _ _ h => h) (Or.inl ⟨by rfl, ?_⟩) ?_ ?_
      rotate_left
      · intro w'
        go_simp
        with_reducible rfl
      rotate_left
      · simp only [Act.put, List.setIfInBounds_toArray, List.set_cons_zero, List.set_cons_succ, i64_w, i32_w]
        rfl
      refine pure_ (i := 14) (N := (some 61)) (v := ?_) (a' := ?_) #[true, true, true, true, true, true, true, true, true, true, true, true, true, true, true, false, false, false, false, false] rfl rfl (any_of HT_.out (by kernel_rfl)) (fun _ _ _ h => h) (Or.inl ⟨by rfl, ?_⟩) ?_ ?_
      rotate_left
      · intro w'
        go_simp
        with_reducible rfl
      rotate_left
      · simp only [Act.put, List.setIfInBounds_toArray, List.set_cons_zero, List.set_cons_succ, i64_w, i32_w]
        rfl
      refine take_ (i := 15) (N := (some 62)) (v := ?_) (a' := ?_) #[true, true, true, true, true, true, true, true, true, true, true, true, true, true, true, true, false, false, false, false] rfl rfl (take_ofW HT_.out HW_.out (by kernel_rfl)) (fun _ _ _ h => h) (Or.inl ⟨by rfl, ?_⟩) hHeld ?_ ?_
      rotate_left
      · rintro w' ⟨hbl, s0, s1, s2, s3, s4, s5, s6, s7, s8, s9, s10, s11, s12⟩
        go_simp
        with_reducible rfl
      rotate_left
      · simp only [Act.put, List.setIfInBounds_toArray, List.set_cons_zero, List.set_cons_succ, i64_w, i32_w]
        rfl
      refine take_ (i := 16) (N := (some 63)) (v := ?_) (a' := ?_) #[true, true, true, true, true, true, true, true, true, true, true, true, true, true, true, true, true, false, false, false] rfl rfl (take_ofW HT_.out HW_.out (by kernel_rfl)) (fun _ _ _ h => h) (Or.inl ⟨by rfl, ?_⟩) hHeld ?_ ?_
      rotate_left
      · rintro w' ⟨hbl, s0, s1, s2, s3, s4, s5, s6, s7, s8, s9, s10, s11, s12⟩
        go_simp
        with_reducible rfl
      rotate_left
      · simp only [Act.put, List.setIfInBounds_toArray, List.set_cons_zero, List.set_cons_succ, i64_w, i32_w]
        rfl
      refine one_ (i := 17) (N := (some 64)) #[true, true, true, true, true, true, true, true, true, true, true, true, true, true, true, true, true, true, false, false] rfl rfl (one_of HT_.out (by kernel_rfl)) (by decide) (fun K hK => ?_)
      refine goes_ Tryd.func65 (by kernel_rfl) rfl #[.int .i64 size, .agg #[.int .i64 x.f0, .int .i64 x.f1, .slice p.A2 x.f2.length p.c2, .int .i64 x.f3, .slice p.A4 x.f4.length p.c4, .slice p.A5 x.f5.length p.c5], .agg #[.int .i64 r.f0, .int .i64 r.f1, .slice pr.A2 r.f2.length pr.c2, .int .i64 r.f3, .slice pr.A4 r.f4.length pr.c4, .slice pr.A5 r.f5.length pr.c5]] (by rfl) rfl rfl (by (try simp only [List.map_toArray, List.map_cons, List.map_nil]); first | done | rfl) ?_
      with_reducible refine (HLNK.out _ hHeld.1).mono ?_
      rintro e8 w8 ⟨rfl, hB8⟩
      refine ⟨_, rfl, ?_⟩
      refine hK.out _ _ (HKEEP.out w8 (keep_trans hHeld.1 hB8)) (fun hHeld => ?_)
      clear hK K
      refine norm_ (a' := ?_) ?_ ?_
      rotate_left
      · show Act.put _ (some 64) _ = _
        simp only [Act.put, List.setIfInBounds_toArray, List.set_cons_zero, List.set_cons_succ, i64_w, i32_w]
        rfl
      refine pure_ (i := 18) (N := (some 65)) (v := ?_) (a' := ?_) #[true, true, true, true, true, true, true, true, true, true, true, true, true, true, true, true, true, true, true, false] rfl rfl (any_of HT_.out (by kernel_rfl)) (fun _ _ _ h => h) (Or.inl ⟨by rfl, ?_⟩) ?_ ?_
      rotate_left
      · intro w'
        go_simp
        with_reducible rfl
      rotate_left
      · simp only [Act.put, List.setIfInBounds_toArray, List.set_cons_zero, List.set_cons_succ, i64_w, i32_w]
        rfl
      refine pure_ (i := 19) (N := (some 66)) (v := ?_) (a' := ?_) #[true, true, true, true, true, true, true, true, true, true, true, true, true, true, true, true, true, true, true, true] rfl rfl (any_of HT_.out (by kernel_rfl)) (fun _ _ _ h => h) (Or.inl ⟨by rfl, ?_⟩) ?_ ?_
      rotate_left
      · intro w'
        go_simp
        with_reducible rfl
      rotate_left
      · simp only [Act.put, List.setIfInBounds_toArray, List.set_cons_zero, List.set_cons_succ, i64_w, i32_w]
        rfl
      refine done_ (done_of HT_.out (by kernel_rfl)) ?_
      have HBF := Aside0.mk hHeld.1
      replace H8 := Aside0.mk (H8.out.below HBF.out)
      replace H10 := Aside0.mk (H10.out.below HBF.out)
      replace H12 := Aside0.mk (H12.out.below HBF.out)
      have hbq := HBQ.out.trans (HBF.out.mono HBQ.out.size)
      have hbeq := HBEQ.out.trans (HBF.out.mono HBEQ.out.size)
      clear hHeld HBQ HBEQ
      have HBQ := Aside0.mk hbq
      have HBEQ := Aside0.mk hbeq
      clear hbq hbeq
      obtain ⟨f0, f1, f2, f3, f4, f5⟩ := H10.out.frozen
      obtain ⟨r0, r1, r2, r3, r4, r5⟩ := H12.out.cells
      obtain ⟨e0, e1, e2, e3, e4, e5⟩ := H10.out.cells
      go_wp2_with fail
      have hlt := HLT.out
      have hfar : q ≠ g := Ne.symm HG8.out
      have hb9 := put6_below HBQ.out HG.out (.int .i64 r.f0) (.int .i64 r.f1) (.slice pr.A2 r.f2.length pr.c2) (.int .i64 r.f3) (.slice pr.A4 r.f4.length pr.c4) (.slice pr.A5 r.f5.length pr.c5)
      have hb10 := put6_below HBEQ.out HG3.out (.int .i64 r.f0) (.int .i64 r.f1) (.slice pr.A2 r.f2.length pr.c2) (.int .i64 r.f3) (.slice pr.A4 r.f4.length pr.c4) (.slice pr.A5 r.f5.length pr.c5)
      have hrn : r.f0 = (nxt x.f0.toNat t.toNat : Int) := by rw [HEQ.out]; exact HNX.out
      have htr : t ≤ r.f0 := by rw [hrn]; exact HNB.out.2.1
      have hed : ∃ n, r.f0.toNat - t.toNat ≤ n ∧ E.drop (k + 1) = wayL n r.f0.toNat t.toNat := by
        rw [hrn, Int.toNat_natCast]
        exact HE1.out
      go_roundw
      case measure => simp only [intOf]; omega
      case rel => exact ⟨k + 1, r, pr, by omega, by go_num, ⟨put6_rec H10.out r pr⟩, HRC00, ⟨put6_far hfar H8.out _ _ _ _ _ _⟩, ⟨HCR.out, HRO.out⟩, ⟨htr⟩, ⟨HNXT.out⟩, ⟨hed⟩, ⟨hb9⟩, ⟨hb10⟩⟩
    · obtain rfl : k = way.length := by omega
      have hd : decide ((way.length : Int) < (way.length : Int)) = false := by simp
      obtain ⟨e0, e1, e2, e3, e4, e5⟩ := H10.out.cells
      obtain ⟨d0, d1, d2, d3, d4, d5⟩ := H8.out.cells
      obtain ⟨f0, f1, f2, f3, f4, f5⟩ := H8.out.frozen
      have hnil := HF.out
      obtain ⟨n, hn, hEd⟩ := HED.out
      rw [List.drop_of_length_le (by have := HLEN.out; omega)] at hEd
      have hxt : x.f0 = t := by
        by_cases h : t < x.f0
        · rw [wayL_step n _ _ (by have := HT.out; omega) hn] at hEd
          exact absurd hEd (by simp)
        · have := HTX.out
          omega
      rw [List.drop_length] at hnil
      have hFR : followR size x0 way t = some x := by rw [hnil]; exact if_pos hxt
      have HFR := Aside0.mk hFR
      clear hnil hFR hxt hk hlt hwm hEd hn
      go_wp2_with fail
      have hfin := put6_rec H8.out x p
      refine bodyPost_ret (results_rfollow _ q x p true hfin _ rfl rfl) rfl ?_
      rw [HFR.out]
      have hbf := put6_below HB.out HQ.out (.int .i64 x.f0) (.int .i64 x.f1) (.slice p.A2 x.f2.length p.c2) (.int .i64 x.f3) (.slice p.A4 x.f4.length p.c4) (.slice p.A5 x.f5.length p.c5)
      exact ⟨p, rfl, HC00.out, hbf⟩
end Go.Proofs.YteamljekjncbfaaDoor.P
end
