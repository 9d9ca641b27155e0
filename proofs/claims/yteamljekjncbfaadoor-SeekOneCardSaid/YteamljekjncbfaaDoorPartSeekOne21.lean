/- Lemmas of this claim, part 21. -/
import Derived.Test.YteamljekjncbfaaDoorPartSeekOne20
section
set_option linter.unusedVariables false
set_option linter.unusedSimpArgs false
namespace Go.Proofs.YteamljekjncbfaaDoor.P
open Go.RowKit Go.Proofs.YteamljekjncbfaaDoor.Pure Go.Proofs.YteamljekjncbfaaDoorW.PrintWords Go.Proofs.YteamljekjncbfaaDoorW.PrintLast Go.Proofs.YteamljekjncbfaaDoorW.PrintMore
theorem take_get {α : Type} {l m : List α} {j i : Nat} (h : l.take j = m.take j) (hi : i < j) (h1 : i < l.length) (h2 : i < m.length) : l[i] = m[i] := by
  have h3 := congrArg (fun x => x[i]?) h
  simp only [List.getElem?_take, hi, if_true, List.getElem?_eq_getElem h1, List.getElem?_eq_getElem h2] at h3
  exact Option.some.inj h3
def seekOne_T13 : Bool × List (List Nat × List Nat) := (true, [([], []), ([], []), ([0, 1], [0, 1]), ([2], [2]), ([], []), ([3, 4], [3, 4]), ([5], [5]), ([], []), ([], []), ([7, 8], [7, 8]), ([9], [9]), ([], []), ([10, 11], [10, 11]), ([12], [12]), ([6, 13], [6, 13]), ([14], [14])])
def seekOne_B13 : List Nat := [0, 0, 3, 7, 0, 31, 63, 0, 0, 384, 896, 0, 3968, 8064, 16383, 32767]
theorem seekOne_tab13 : rtab .any (opsOf Tryd.f12 13) = seekOne_T13 := by kernel_rfl
theorem seekOne_bits13 : waitsOk seekOne_T13.2 seekOne_B13 = true := by kernel_rfl
def seekOne_T14 : Bool × List (List Nat × List Nat) := (true, [([], []), ([], []), ([], []), ([1, 2], [1, 2]), ([3], [3]), ([], []), ([4, 5], [4, 5]), ([6], [6]), ([0, 7], [0, 7]), ([], []), ([], []), ([], []), ([10, 11], [10, 11]), ([12], [12]), ([], []), ([13, 14], [13, 14]), ([15], [15]), ([9, 16, 8], [9, 16]), ([8, 17, 17], [8, 17]), ([18, 18], [18]), ([19, 19], [19]), ([19, 20], [19, 20]), ([21, 20, 0, 1, 2, 3, 4, 5, 6, 7, 8, 9, 10, 11, 12, 13, 14, 15, 16, 17, 18, 19, 20, 21], [21])])
def seekOne_B14 : List Nat := [0, 0, 0, 6, 14, 0, 62, 126, 255, 0, 0, 0, 3072, 7168, 0, 31744, 64512, 131071, 262143, 524287, 1048575, 2097151, 4194303]
theorem seekOne_tab14 : rtab .any (opsOf Tryd.f12 14) = seekOne_T14 := by kernel_rfl
theorem seekOne_bits14 : waitsOk seekOne_T14.2 seekOne_B14 = true := by kernel_rfl
attribute [local go_sem] max2_int min2_int max_two min_two
set_option maxHeartbeats 8000000 in
set_option maxRecDepth 100000 in
theorem seekOne_true (size : Int) (x0 : Rec) (p0 : Rows6) (Au : Option Addr) (cu : Nat) (one : List (List Rec)) (Av : Option Addr) (cv : Nat) (other : List (List Rec)) (t : Int) (w : World) (h0 : RecC w p0 x0) (hu : Kd.C (Kd.slice 40 k40) w Au one.length one) (huc : one.length ≤ cu) (hv : Kd.C (Kd.slice 40 k40) w Av other.length other) (hvc : other.length ≤ cv)
    (hs : -9223372036854775808 ≤ size ∧ size < 9223372036854775808) (ho : RecOk x0) (hou : ∀ l ∈ one, ∀ r ∈ l, RecOk r) (hov : ∀ l ∈ other, ∀ r ∈ l, RecOk r) (hGT : GlobT w) (hGS : GlobS w) :
    Calls Tryd.prog 12 #[.int .i64 size, .agg #[.int .i64 x0.f0, .int .i64 x0.f1, .slice p0.A2 x0.f2.length p0.c2, .int .i64 x0.f3, .slice p0.A4 x0.f4.length p0.c4, .slice p0.A5 x0.f5.length p0.c5], .slice Au one.length cu, .slice Av other.length cv, .int .i64 t] w fun e w' => e = .returned (.bool true) ∧ Below w.heap.size w w' := by
  have H0 := Aside0.mk h0
  have HU := Aside0.mk hu
  have HV := Aside0.mk hv
  have HUC := Aside0.mk huc
  have HVC := Aside0.mk hvc
  have HS := Aside0.mk hs
  have HO := Aside0.mk ho
  have HOU := Aside0.mk hou
  have HOV := Aside0.mk hov
  have HGT := Aside0.mk hGT
  have HGS := Aside0.mk hGS
  clear h0 hu hv huc hvc hs ho hou hov hGT hGS
  go_enter Tryd.func12, Tryd.ntmps12
  by_cases hb1 : (one.length : Int) > 20
  · have hd := decide_eq_true hb1
    have hd2 : decide (20 < one.length) = true := decide_eq_true (by omega)
    clear hb1
    go_wp2_with fail
    refine (awake20_calls _).mono ?_
    rintro e w7 ⟨rfl, hB7⟩
    have HB7 := Aside0.mk (below_step (below_alloc (Below.refl w.heap.size w) (.cells (recL x0 p0).toArray 40)) hB7)
    clear hB7
    go_wp2_with fail
    go_ret
    exact ⟨rfl, HB7.out⟩
  have hd := decide_eq_false hb1
  have hd2 : decide (20 < one.length) = false := decide_eq_false (by omega)
  by_cases hb2 : (other.length : Int) > 20
  · have hd3 := decide_eq_true hb2
    have hd4 : decide (20 < other.length) = true := decide_eq_true (by omega)
    clear hb1 hb2
    go_wp2_with fail
    refine (awake20_calls _).mono ?_
    rintro e w7 ⟨rfl, hB7⟩
    have HB7 := Aside0.mk (below_step (below_alloc (Below.refl w.heap.size w) (.cells (recL x0 p0).toArray 40)) hB7)
    clear hB7
    go_wp2_with fail
    go_ret
    exact ⟨rfl, HB7.out⟩
  have hd3 := decide_eq_false hb2
  have hd4 : decide (20 < other.length) = false := decide_eq_false (by omega)
  have HNB := Aside0.mk (And.intro hb1 hb2)
  clear hb1 hb2
  go_wp2_with fail
  clear hd hd2 hd3 hd4
  obtain ⟨W1, hW1⟩ : ∃ W1, W1 = w.alloc (.cells (recL x0 p0).toArray 40) := ⟨_, rfl⟩
  change Calls _ _ _ (w.alloc (.cells (recL x0 p0).toArray 40)) _
  rw [← hW1]
  have HB1 := Aside0.mk (show Below w.heap.size w W1 from by rw [hW1]; exact below_alloc (Below.refl _ _) _)
  have H5 := Aside0.mk (show RecB W1 w.heap.size x0 p0 from by rw [hW1]; exact recB_new w x0 p0)
  clear hW1
  refine (seek_calls size x0 p0 Au cu one t W1 (H0.out.below HB1.out) (Kd.C_below HU.out HB1.out) HUC.out HS.out HO.out HOU.out (GlobT.of HGT.out HB1.out) (GlobS.of HGS.out HB1.out)).mono ?_
  rintro e w2 hpost
  have hok := found_ok ckAt size t x0 one HO.out HOU.out
  obtain ⟨o1, ho1⟩ : ∃ o, o = seekR ckAt size x0 one t := ⟨_, rfl⟩
  rw [← ho1] at hok hpost
  obtain ⟨X, hX⟩ : ∃ X, X = (handed o1).1 := ⟨_, rfl⟩
  obtain ⟨E, hE⟩ : ∃ E, E = errOf o1 := ⟨_, rfl⟩
  obtain ⟨p2, rfl, hC2, hB2⟩ := hpost
  rw [← hX] at hC2 hok
  rw [← hX, ← hE]
  unfold recAgg
  have HO1 := Aside0.mk ho1
  have HOKX := Aside0.mk hok
  have HX := Aside0.mk hX
  have HE := Aside0.mk hE
  have HC2 := Aside0.mk hC2
  have HB2 := Aside0.mk (below_step HB1.out hB2)
  replace H5 := Aside0.mk (H5.out.below hB2)
  clear hX hE hC2 hB2 hok ho1 HB1
  obtain ⟨e0, e1, e2, e3, e4, e5⟩ := H5.out.cells
  have hgl := H5.out.lt
  go_wp2_with fail
  clear hgl
  obtain ⟨W3, hW3⟩ : ∃ W3, W3 = w2.alloc (.cells (recL X p2).toArray 40) := ⟨_, rfl⟩
  change Calls _ _ _ (w2.alloc (.cells (recL X p2).toArray 40)) _
  rw [← hW3]
  have hB3 : Below w2.heap.size w2 W3 := by rw [hW3]; exact below_alloc (Below.refl _ _) _
  have h9 : RecB W3 w2.heap.size X p2 := by rw [hW3]; exact recB_new w2 X p2
  obtain ⟨g9, hg9⟩ : ∃ g, g = w2.heap.size := ⟨_, rfl⟩
  rw [← hg9] at h9
  rw [← hg9]
  have HB3 := Aside0.mk (below_step HB2.out hB3)
  have H9 := Aside0.mk h9
  have HC3 := Aside0.mk (HC2.out.below hB3)
  clear hW3 hB3 h9 hg9 HB2 HC2 e0 e1 e2 e3 e4 e5
  refine (seek_calls size x0 p0 Av cv other t W3 (H0.out.below HB3.out) (Kd.C_below HV.out HB3.out) HVC.out HS.out HO.out HOV.out (GlobT.of HGT.out HB3.out) (GlobS.of HGS.out HB3.out)).mono ?_
  rintro e w4 hpost
  have hok := found_ok ckAt size t x0 other HO.out HOV.out
  obtain ⟨o2, ho2⟩ : ∃ o, o = seekR ckAt size x0 other t := ⟨_, rfl⟩
  rw [← ho2] at hok hpost
  obtain ⟨Y, hY⟩ : ∃ Y, Y = (handed o2).1 := ⟨_, rfl⟩
  obtain ⟨F, hF⟩ : ∃ F, F = errOf o2 := ⟨_, rfl⟩
  obtain ⟨p4, rfl, hC4, hB4⟩ := hpost
  rw [← hY] at hC4 hok
  rw [← hY, ← hF]
  unfold recAgg
  have HO2 := Aside0.mk ho2
  have HOKY := Aside0.mk hok
  have HY := Aside0.mk hY
  have HF := Aside0.mk hF
  have HC4 := Aside0.mk hC4
  have HB4 := Aside0.mk (below_step HB3.out hB4)
  replace H9 := Aside0.mk (H9.out.below hB4)
  have HC34 := Aside0.mk (HC3.out.below hB4)
  clear hC4 hB4 HB3 HC3 hY hF hok ho2
  obtain ⟨d0, d1, d2, d3, d4, d5⟩ := H9.out.cells
  have hgl := H9.out.lt
  obtain ⟨W5, hW5⟩ : ∃ W5, W5 = w4.alloc (.cells (recL Y p4).toArray 40) := ⟨_, rfl⟩
  have hB5 : Below w4.heap.size w4 W5 := by rw [hW5]; exact below_alloc (Below.refl _ _) _
  have HBZ := Aside0.mk (below_step HB4.out hB5)
  have HCX := Aside0.mk (HC34.out.below hB5)
  have HCY := Aside0.mk (HC4.out.below hB5)
  have HW5 := Aside0.mk (show W5 = w4.alloc (.cells #[.int .i64 Y.f0, .int .i64 Y.f1, .slice p4.A2 Y.f2.length p4.c2, .int .i64 Y.f3, .slice p4.A4 Y.f4.length p4.c4, .slice p4.A5 Y.f5.length p4.c5] 40) from hW5)
  clear hW5 hB5
  cases o1 with
  | none =>
    obtain rfl : E = 95 := HE.out
    go_wp2_with fail
    rw [← HW5.out]
    refine (awake20_calls _).mono ?_
    rintro e w7 ⟨rfl, hB7⟩
    have HB7 := Aside0.mk (below_step HBZ.out hB7)
    clear hB7
    go_wp2_with fail
    go_ret
    exact ⟨rfl, HB7.out⟩
  | some r1 =>
  obtain rfl : E = 0 := HE.out
  cases o2 with
  | none =>
    obtain rfl : F = 95 := HF.out
    go_wp2_with fail
    rw [← HW5.out]
    refine (awake20_calls _).mono ?_
    rintro e w7 ⟨rfl, hB7⟩
    have HB7 := Aside0.mk (below_step HBZ.out hB7)
    clear hB7
    go_wp2_with fail
    go_ret
    exact ⟨rfl, HB7.out⟩
  | some r2 =>
  obtain rfl : F = 0 := HF.out
  go_wp2_with fail
  rw [← HW5.out]
  refine (annalsref13_Same.calls 100 X.f0 X.f1 p2.A2 p2.c2 X.f2 X.f3 p2.A4 p2.c4 X.f4 p2.A5 p2.c5 X.f5 Y.f0 Y.f1 p4.A2 p4.c2 Y.f2 Y.f3 p4.A4 p4.c4 Y.f4 p4.A5 p4.c5 Y.f5 (decide (SameR X Y)) W5 HCX.out.g2 HCX.out.l2 HCX.out.g4 HCX.out.l4 HCX.out.g5 HCX.out.l5 HCY.out.g2 HCY.out.l2 HCY.out.g4 HCY.out.l4 HCY.out.g5 HCY.out.l5 (same_f X Y HOKX.out.1 HOKY.out.1 100 (by have := HOKX.out.2; omega) (by have := HOKX.out.2; omega))).mono ?_
  rintro e w6 ⟨rfl, hB6⟩
  replace HBZ := Aside0.mk (below_step HBZ.out hB6)
  clear hB6 d0 d1 d2 d3 d4 d5 hgl HW5 H9 HC34 HC4 HB4 HCX HCY H5
  by_cases hsame : SameR X Y
  case pos =>
    have hsd := decide_eq_true hsame
    clear hsame
    go_wp2_with fail
    refine (awake20_calls _).mono ?_
    rintro e w7 ⟨rfl, hB7⟩
    have HB7 := Aside0.mk (below_step HBZ.out hB7)
    clear hB7
    go_wp2_with fail
    go_ret
    exact ⟨rfl, HB7.out⟩
  have hsd := decide_eq_false hsame
  have HPART := Aside0.mk (show PartL size one other from by
    have h1 := HX.out
    have h2 := HY.out
    have h1' : X = r1 := h1
    have h2' : Y = r2 := h2
    rcases seekR_first ckAt size x0 t one other r1 r2 HO1.out.symm HO2.out.symm with h | h
    · exact absurd (by rw [h1', h2', h]; exact SameR.refl _) hsame
    · exact h)
  obtain ⟨j, hj1, hj2, hjt, z, hz1, hz2, hzt, hzn, hzh⟩ := HPART.out
  have HJ := Aside0.mk hj1
  have HJ2 := Aside0.mk hj2
  have HEQ := Aside0.mk (show ∀ (i : Nat) (h1 : i < one.length) (h2 : i < other.length) (k : Nat) (h3 : k < one[i].length) (h4 : k < other[i].length), i ≤ j → (i < j ∨ k < z) → one[i][k] = other[i][k] from fun i h1 h2 k h3 h4 hij hc => by
    by_cases h : i < j
    · have h5 := take_get hjt h h1 h2
      simp only [h5]
    · obtain rfl : i = j := by omega
      exact take_get hzt (by omega) h3 h4)
  have HNE := Aside0.mk (show ∀ (i : Nat) (h1 : i < one.length) (h2 : i < other.length), i = j → z < one[i].length ∧ z < other[i].length ∧ ∀ (h3 : z < one[i].length) (h4 : z < other[i].length), one[i][z] ≠ other[i][z] ∧ hashR size one[i][z] = hashR size other[i][z] from fun i h1 h2 hij => by
    subst hij
    exact ⟨hz1, hz2, fun _ _ => ⟨hzn, hzh⟩⟩)
  obtain ⟨m, hm⟩ : ∃ m, m = min one.length other.length := ⟨_, rfl⟩
  have q1 : (if (other.length : Int) < (one.length : Int) then (other.length : Int) else (one.length : Int)) = (m : Int) := by split <;> omega
  have q2 : (if other.length < one.length then (other.length : Int) else (one.length : Int)) = (m : Int) := by split <;> omega
  have HM := Aside0.mk hm
  clear hsame hm hj1 hj2 hjt hz1 hz2 hzt hzn hzh HPART
  go_wp2_with fail
  clear q1 q2 hsd
  go_loopw [59] (fun v59 wr => ∃ i : Nat, i ≤ j ∧ v59 = .int .i64 (i : Int) ∧ Aside0 (Below w.heap.size w wr)) (fun v59 _ => m - (intOf v59).toNat)
  case atStart => exact ⟨0, Nat.zero_le _, rfl, HBZ⟩
  case round =>
    clear HBZ
    obtain ⟨i, hij, rfl, HB0⟩ := hrel
    have hm20 : m ≤ 20 := by have := HM.out; have := HNB.out.1; omega
    have hiu : i < one.length := by have := HJ.out; omega
    have hiv : i < other.length := by have := HJ2.out; omega
    have hlt : i < m := by have := HM.out; omega
    have hd : decide ((i : Int) < (m : Int)) = true := by simp; omega
    have hd2 : decide (i < m) = true := decide_eq_true hlt
    have qu : (i : Int) < (one.length : Int) := by omega
    have qv : (i : Int) < (other.length : Int) := by omega
    obtain ⟨adu, ba, c1, hAu, hx0, hxl, hxC⟩ := at_RR HU.out i (by omega) (by omega)
    obtain ⟨adv, bb, c2, hAv, hy0, hyl, hyC⟩ := at_RR HV.out i (by omega) (by omega)
    subst hAu
    subst hAv
    rw [rd_RR_at one i hiu] at hx0 hxl hxC
    rw [rd_RR_at other i hiv] at hy0 hyl hyC
    rw [Int.toNat_natCast] at hx0 hy0
    obtain ⟨u, hu⟩ : ∃ u, u = one[i] := ⟨_, rfl⟩
    obtain ⟨v, hv⟩ : ∃ v, v = other[i] := ⟨_, rfl⟩
    rw [← hu] at hx0 hxl hxC
    rw [← hv] at hy0 hyl hyC
    have HEQI := Aside0.mk (show ∀ (k : Nat) (h3 : k < u.length) (h4 : k < v.length), (i < j ∨ k < z) → u[k] = v[k] from by
      subst hu
      subst hv
      exact fun k h3 h4 hc => HEQ.out i hiu hiv k h3 h4 hij hc)
    have HNEI := Aside0.mk (show i = j → z < u.length ∧ z < v.length ∧ ∀ (h3 : z < u.length) (h4 : z < v.length), u[z] ≠ v[z] ∧ hashR size u[z] = hashR size v[z] from by
      subst hu
      subst hv
      exact HNE.out i hiu hiv)
    have HOA1 := Aside0.mk (show ∀ r ∈ u, RecOk r by rw [hu]; exact HOU.out _ (List.getElem_mem hiu))
    have HOB1 := Aside0.mk (show ∀ r ∈ v, RecOk r by rw [hv]; exact HOV.out _ (List.getElem_mem hiv))
    have HX0 := Aside0.mk hx0
    have HY0 := Aside0.mk hy0
    have HXC := Aside0.mk hxC
    have HYC := Aside0.mk hyC
    replace hx0 := (HB0.out.cell (World.block_lt_of_cell? w _ hx0)).trans hx0
    replace hy0 := (HB0.out.cell (World.block_lt_of_cell? w _ hy0)).trans hy0
    obtain ⟨mi, hmi⟩ : ∃ m, m = min u.length v.length := ⟨_, rfl⟩
    have q1 : (if (v.length : Int) < (u.length : Int) then (v.length : Int) else (u.length : Int)) = (mi : Int) := by split <;> omega
    have q2 : (if v.length < u.length then (v.length : Int) else (u.length : Int)) = (mi : Int) := by split <;> omega
    have HMI := Aside0.mk hmi
    have HMX := Aside0.mk (show mi ≤ 9223372036854775807 by have := hxC.2.1; omega)
    have HIM := Aside0.mk (And.intro hlt (And.intro hij hm20))
    clear hu hv hxC hyC hxl hyl hmi hij hm20 hlt hiu hiv
    go_wp2_with fail
    go_quiet (fail)
    have HBQ := Aside0.mk (below_step HB0.out (pw_below_drewN (Below.refl _ _) nq))
    generalize hgw : wr.drewN nq = w11 at HBQ ⊢
    clear hgw hx0 hy0 q1 q2 HB0 hd hd2
    go_wp2_with fail
    go_loopw [73] (fun v73 wr => ∃ k : Nat, k ≤ mi ∧ v73 = .int .i64 (k : Int) ∧ Aside0 (i = j → k ≤ z) ∧ Aside0 (Below w.heap.size w wr)) (fun v73 _ => mi - (intOf v73).toNat)
    case atStart => exact ⟨0, Nat.zero_le _, rfl, ⟨fun _ => Nat.zero_le _⟩, HBQ⟩
    case round =>
      clear HBQ
      obtain ⟨k, hk, rfl, HKZ, HB⟩ := hrel
      have hmx := HMX.out
      have hm20 := HIM.out.2.2
      by_cases hlt : k < mi
      · have hku : k < u.length := by have := HMI.out; omega
        have hkv : k < v.length := by have := HMI.out; omega
        have hd : decide ((k : Int) < (mi : Int)) = true := by simp; omega
        have hd2 : decide (k < mi) = true := decide_eq_true hlt
        have qu2 : (k : Int) < (u.length : Int) := by omega
        have q5 : (k : Int) < (mi : Int) := by omega
        have qv2 : (k : Int) < (v.length : Int) := by omega
        obtain ⟨ada, pa, hAa, hRa, a0, a1, a2, a3, a4, a5⟩ := rec_at HXC.out k hku
        obtain ⟨adb, pb, hAb, hRb, b0, b1, b2, b3, b4, b5⟩ := rec_at HYC.out k hkv
        subst hAa
        subst hAb
        have hra : ∀ (l : List Rec) (h : k < l.length), rd_T40 l (k : Int) = l[k] := fun l h => by
          unfold rd_T40
          rw [Int.toNat_natCast, List.getD_eq_getElem?_getD, List.getElem?_eq_getElem h]
          rfl
        rw [hra u hku] at hRa a0 a1 a2 a3 a4 a5
        rw [hra v hkv] at hRb b0 b1 b2 b3 b4 b5
        obtain ⟨a, ha⟩ : ∃ a, a = u[k] := ⟨_, rfl⟩
        obtain ⟨b, hb⟩ : ∃ b, b = v[k] := ⟨_, rfl⟩
        have HOA := Aside0.mk (show RecOk a by rw [ha]; exact HOA1.out _ (List.getElem_mem hku))
        have HOB := Aside0.mk (show RecOk b by rw [hb]; exact HOB1.out _ (List.getElem_mem hkv))
        rw [← ha] at hRa a0 a1 a2 a3 a4 a5
        rw [← hb] at hRb b0 b1 b2 b3 b4 b5
        have HKEEP := Aside0.mk (show ∀ w' : World, Below wr.heap.size wr w' → (Below wr.heap.size wr w' ∧ w'.cell? (adu.add i) = some (.slice (some ada) u.length c1) ∧ w'.cell? (adv.add i) = some (.slice (some adb) v.length c2) ∧ w'.cell? (ada.add (k * 6)) = some (.int .i64 a.f0) ∧ w'.cell? ⟨(ada.add (k * 6)).block, (ada.add (k * 6)).off + 1, none⟩ = some (.int .i64 a.f1) ∧ w'.cell? ⟨(ada.add (k * 6)).block, (ada.add (k * 6)).off + 2, none⟩ = some (.slice pa.A2 a.f2.length pa.c2) ∧ w'.cell? ⟨(ada.add (k * 6)).block, (ada.add (k * 6)).off + 3, none⟩ = some (.int .i64 a.f3) ∧ w'.cell? ⟨(ada.add (k * 6)).block, (ada.add (k * 6)).off + 4, none⟩ = some (.slice pa.A4 a.f4.length pa.c4) ∧ w'.cell? ⟨(ada.add (k * 6)).block, (ada.add (k * 6)).off + 5, none⟩ = some (.slice pa.A5 a.f5.length pa.c5) ∧ w'.cell? (adb.add (k * 6)) = some (.int .i64 b.f0) ∧ w'.cell? ⟨(adb.add (k * 6)).block, (adb.add (k * 6)).off + 1, none⟩ = some (.int .i64 b.f1) ∧ w'.cell? ⟨(adb.add (k * 6)).block, (adb.add (k * 6)).off + 2, none⟩ = some (.slice pb.A2 b.f2.length pb.c2) ∧ w'.cell? ⟨(adb.add (k * 6)).block, (adb.add (k * 6)).off + 3, none⟩ = some (.int .i64 b.f3) ∧ w'.cell? ⟨(adb.add (k * 6)).block, (adb.add (k * 6)).off + 4, none⟩ = some (.slice pb.A4 b.f4.length pb.c4) ∧ w'.cell? ⟨(adb.add (k * 6)).block, (adb.add (k * 6)).off + 5, none⟩ = some (.slice pb.A5 b.f5.length pb.c5)) from fun w' hb' => by
          have hw := HB.out.trans (hb'.mono HB.out.size)
          have ka := rec_keep hw ⟨a0, a1, a2, a3, a4, a5⟩
          have kb := rec_keep hw ⟨b0, b1, b2, b3, b4, b5⟩
          have kx := (hw.cell (World.block_lt_of_cell? w _ HX0.out)).trans HX0.out
          have ky := (hw.cell (World.block_lt_of_cell? w _ HY0.out)).trans HY0.out
          exact ⟨hb', kx, ky, ka.1, ka.2.1, ka.2.2.1, ka.2.2.2.1, ka.2.2.2.2.1, ka.2.2.2.2.2, kb.1, kb.2.1, kb.2.2.1, kb.2.2.2.1, kb.2.2.2.2.1, kb.2.2.2.2.2⟩)
        obtain ⟨sb, hsb⟩ : ∃ sb, sb = decide (SameR a b) := ⟨_, rfl⟩
        have HSAME := Aside0.mk (show ∀ W : World, Below wr.heap.size wr W → Calls Tryd.prog 32 #[.agg #[.int .i64 a.f0, .int .i64 a.f1, .slice pa.A2 a.f2.length pa.c2, .int .i64 a.f3, .slice pa.A4 a.f4.length pa.c4, .slice pa.A5 a.f5.length pa.c5], .agg #[.int .i64 b.f0, .int .i64 b.f1, .slice pb.A2 b.f2.length pb.c2, .int .i64 b.f3, .slice pb.A4 b.f4.length pb.c4, .slice pb.A5 b.f5.length pb.c5]] W fun e8 w8 => e8 = .returned (.bool sb) ∧ Below W.heap.size W w8 from fun W hb' => by
          have hw := HB.out.trans (hb'.mono HB.out.size)
          have ca := hRa.below hw
          have cb := hRb.below hw
          rw [hsb]
          exact annalsref13_Same.calls (a.f5.length + 3) a.f0 a.f1 pa.A2 pa.c2 a.f2 a.f3 pa.A4 pa.c4 a.f4 pa.A5 pa.c5 a.f5 b.f0 b.f1 pb.A2 pb.c2 b.f2 b.f3 pb.A4 pb.c4 b.f4 pb.A5 pb.c5 b.f5 (decide (SameR a b)) W ca.g2 ca.l2 ca.g4 ca.l4 ca.g5 ca.l5 cb.g2 cb.l2 cb.g4 cb.l4 cb.g5 cb.l5 (same_f a b HOA.out HOB.out (a.f5.length + 3) (by omega) (by have := ca.g5.2.1; omega)))
        have HHA := Aside0.mk (show ∀ W : World, Below wr.heap.size wr W → Calls Tryd.prog 33 #[.int .i64 size, .agg #[.int .i64 a.f0, .int .i64 a.f1, .slice pa.A2 a.f2.length pa.c2, .int .i64 a.f3, .slice pa.A4 a.f4.length pa.c4, .slice pa.A5 a.f5.length pa.c5]] W fun e8 w8 => ∃ v0_ : Value, e8 = .returned v0_ ∧ Kd.R (Kd.int .u8) 5 w8 W.heap.size (fun _ => True) v0_ (hashR size a) ∧ Below W.heap.size W w8 from fun W hb' => by
          have ca := hRa.below (HB.out.trans (hb'.mono HB.out.size))
          exact annalsref13_Hash.calls 200 size a.f0 a.f1 pa.A2 pa.c2 a.f2 a.f3 pa.A4 pa.c4 a.f4 pa.A5 pa.c5 a.f5 (hashR size a) W ca.g2 ca.l2 ca.g4 ca.l4 ca.g5 ca.l5 (rhashR_f size a HOA.out 200 (by decide)))
        have HHB := Aside0.mk (show ∀ W : World, Below wr.heap.size wr W → Calls Tryd.prog 33 #[.int .i64 size, .agg #[.int .i64 b.f0, .int .i64 b.f1, .slice pb.A2 b.f2.length pb.c2, .int .i64 b.f3, .slice pb.A4 b.f4.length pb.c4, .slice pb.A5 b.f5.length pb.c5]] W fun e8 w8 => ∃ v0_ : Value, e8 = .returned v0_ ∧ Kd.R (Kd.int .u8) 5 w8 W.heap.size (fun _ => True) v0_ (hashR size b) ∧ Below W.heap.size W w8 from fun W hb' => by
          have cb := hRb.below (HB.out.trans (hb'.mono HB.out.size))
          exact annalsref13_Hash.calls 200 size b.f0 b.f1 pb.A2 pb.c2 b.f2 b.f3 pb.A4 pb.c4 b.f4 pb.A5 pb.c5 b.f5 (hashR size b) W cb.g2 cb.l2 cb.g4 cb.l4 cb.g5 cb.l5 (rhashR_f size b HOB.out 200 (by decide)))
        have HYES := Aside0.mk (show i < j ∨ k < z → sb = true from fun hc => by
          have h := HEQI.out k hku hkv hc
          rw [hsb, ha, hb, h]
          exact decide_eq_true (SameR.refl _))
        have HNOT := Aside0.mk (show ¬ (i < j ∨ k < z) → sb = false ∧ hashR size a = hashR size b from fun hc => by
          have h1 := HIM.out.2.1
          have h2 : i = j := by omega
          have h3 := HKZ.out h2
          obtain ⟨h4, h5, h6⟩ := HNEI.out h2
          obtain rfl : k = z := by omega
          have h7 := h6 hku hkv
          rw [← ha, ← hb] at h7
          exact ⟨by rw [hsb]; exact decide_eq_false (fun hs => h7.1 hs.eq), h7.2⟩)
        have HLT := Aside0.mk hlt
        clear hsb ha hb hra hRa hRb a0 a1 a2 a3 a4 a5 b0 b1 b2 b3 b4 b5 hku hkv hlt hk
        go_wp2_with fail
        refine start_ (n := 16) (S := fun w' => Below wr.heap.size wr w' ∧ w'.cell? (adu.add i) = some (.slice (some ada) u.length c1) ∧ w'.cell? (adv.add i) = some (.slice (some adb) v.length c2) ∧ w'.cell? (ada.add (k * 6)) = some (.int .i64 a.f0) ∧ w'.cell? ⟨(ada.add (k * 6)).block, (ada.add (k * 6)).off + 1, none⟩ = some (.int .i64 a.f1) ∧ w'.cell? ⟨(ada.add (k * 6)).block, (ada.add (k * 6)).off + 2, none⟩ = some (.slice pa.A2 a.f2.length pa.c2) ∧ w'.cell? ⟨(ada.add (k * 6)).block, (ada.add (k * 6)).off + 3, none⟩ = some (.int .i64 a.f3) ∧ w'.cell? ⟨(ada.add (k * 6)).block, (ada.add (k * 6)).off + 4, none⟩ = some (.slice pa.A4 a.f4.length pa.c4) ∧ w'.cell? ⟨(ada.add (k * 6)).block, (ada.add (k * 6)).off + 5, none⟩ = some (.slice pa.A5 a.f5.length pa.c5) ∧ w'.cell? (adb.add (k * 6)) = some (.int .i64 b.f0) ∧ w'.cell? ⟨(adb.add (k * 6)).block, (adb.add (k * 6)).off + 1, none⟩ = some (.int .i64 b.f1) ∧ w'.cell? ⟨(adb.add (k * 6)).block, (adb.add (k * 6)).off + 2, none⟩ = some (.slice pb.A2 b.f2.length pb.c2) ∧ w'.cell? ⟨(adb.add (k * 6)).block, (adb.add (k * 6)).off + 3, none⟩ = some (.int .i64 b.f3) ∧ w'.cell? ⟨(adb.add (k * 6)).block, (adb.add (k * 6)).off + 4, none⟩ = some (.slice pb.A4 b.f4.length pb.c4) ∧ w'.cell? ⟨(adb.add (k * 6)).block, (adb.add (k * 6)).off + 5, none⟩ = some (.slice pb.A5 b.f5.length pb.c5)) (ds := []) #[false, false, false, false, false, false, false, false, false, false, false, false, false, false, false, false] (by kernel_rfl) rfl rfl (HKEEP.out wr.drew (below_drew (Below.refl _ _))) (fun hHeld => ?_); refine with_tabW seekOne_tab13 seekOne_bits13 (fun HT_ HW_ => ?_)
        generalize hgw : wr.drew = w18 at hHeld ⊢
        clear hgw
        refine pure_ (i := 0) (N := (some 76)) (v := ?_) (a' := ?_) #[true, false, false, false, false, false, false, false, false, false, false, false, false, false, false, false] rfl rfl (any_of HT_.out (by kernel_rfl)) (fun _ _ _ h => h) (Or.inl ⟨by rfl, ?_⟩) ?_ ?_
        rotate_left
        · intro w'
          go_simp
          with_reducible rfl
        rotate_left
        · simp only [Act.put, List.setIfInBounds_toArray, List.set_cons_zero, List.set_cons_succ, i64_w, i32_w]
          rfl
        refine pure_ (i := 1) (N := (some 77)) (v := ?_) (a' := ?_) #[true, true, false, false, false, false, false, false, false, false, false, false, false, false, false, false] rfl rfl (any_of HT_.out (by kernel_rfl)) (fun _ _ _ h => h) (Or.inl ⟨by rfl, ?_⟩) ?_ ?_
        rotate_left
        · intro w'
          go_simp
          with_reducible rfl
        rotate_left
        · simp only [Act.put, List.setIfInBounds_toArray, List.set_cons_zero, List.set_cons_succ, i64_w, i32_w]
          rfl
        refine pure_ (i := 2) (N := (some 78)) (v := ?_) (a' := ?_) #[true, true, true, false, false, false, false, false, false, false, false, false, false, false, false, false] rfl rfl (any_of HT_.out (by kernel_rfl)) (fun _ _ _ h => h) (Or.inl ⟨by rfl, ?_⟩) ?_ ?_
        rotate_left
        · intro w'
          go_simp
          with_reducible rfl
        rotate_left
        · simp only [Act.put, List.setIfInBounds_toArray, List.set_cons_zero, List.set_cons_succ, i64_w, i32_w]
          rfl
        refine take_ (i := 3) (N := (some 79)) (v := ?_) (a' := ?_) #[true, true, true, true, false, false, false, false, false, false, false, false, false, false, false, false] rfl rfl (take_ofW HT_.out HW_.out (by kernel_rfl)) (fun _ _ _ h => h) (Or.inl ⟨by rfl, ?_⟩) hHeld ?_ ?_
        rotate_left
        · rintro w' ⟨hbl, t0, t1, s0, s1, s2, s3, s4, s5, s6, s7, s8, s9, s10, s11⟩
          go_simp
          with_reducible rfl
        rotate_left
        · simp only [Act.put, List.setIfInBounds_toArray, List.set_cons_zero, List.set_cons_succ, i64_w, i32_w]
          rfl
        refine pure_ (i := 4) (N := (some 80)) (v := ?_) (a' := ?_) #[true, true, true, true, true, false, false, false, false, false, false, false, false, false, false, false] rfl rfl (any_of HT_.out (by kernel_rfl)) (fun _ _ _ h => h) (Or.inl ⟨by rfl, ?_⟩) ?_ ?_
        rotate_left
        · intro w'
          go_simp
          with_reducible rfl
        rotate_left
        · simp only [Act.put, List.setIfInBounds_toArray, List.set_cons_zero, List.set_cons_succ, i64_w, i32_w]
          rfl
        refine pure_ (i := 5) (N := (some 81)) (v := ?_) (a' := ?_) #[true, true, true, true, true, true, false, false, false, false, false, false, false, false, false, false] rfl rfl (any_of HT_.out (by kernel_rfl)) (fun _ _ _ h => h) (Or.inl ⟨by rfl, ?_⟩) ?_ ?_
        rotate_left
        · intro w'
          go_simp
          with_reducible rfl
        rotate_left
        · simp only [Act.put, List.setIfInBounds_toArray, List.set_cons_zero, List.set_cons_succ, i64_w, i32_w]
          rfl
        refine take_ (i := 6) (N := (some 82)) (v := ?_) (a' := ?_) #[true, true, true, true, true, true, true, false, false, false, false, false, false, false, false, false] rfl rfl (take_ofW HT_.out HW_.out (by kernel_rfl)) (fun _ _ _ h => h) (Or.inl ⟨by rfl, ?_⟩) hHeld ?_ ?_
        rotate_left
        · rintro w' ⟨hbl, t0, t1, s0, s1, s2, s3, s4, s5, s6, s7, s8, s9, s10, s11⟩
          go_simp
          with_reducible rfl
        rotate_left
        · simp only [Act.put, List.setIfInBounds_toArray, List.set_cons_zero, List.set_cons_succ, i64_w, i32_w]
          rfl
        refine pure_ (i := 7) (N := (some 83)) (v := ?_) (a' := ?_) #[true, true, true, true, true, true, true, true, false, false, false, false, false, false, false, false] rfl rfl (any_of HT_.out (by kernel_rfl)) (fun _ _ _ h => h) (Or.inl ⟨by rfl, ?_⟩) ?_ ?_
        rotate_left
        · intro w'
          go_simp
          with_reducible rfl
        rotate_left
        · simp only [Act.put, List.setIfInBounds_toArray, List.set_cons_zero, List.set_cons_succ, i64_w, i32_w]
          rfl
        refine pure_ (i := 8) (N := (some 84)) (v := ?_) (a' := ?_) #[true, true, true, true, true, true, true, true, true, false, false, false, false, false, false, false] rfl rfl (any_of HT_.out (by kernel_rfl)) (fun _ _ _ h => h) (Or.inl ⟨by rfl, ?_⟩) ?_ ?_
        rotate_left
        · intro w'
          go_simp
          with_reducible rfl
        rotate_left
        · simp only [Act.put, List.setIfInBounds_toArray, List.set_cons_zero, List.set_cons_succ, i64_w, i32_w]
          rfl
        refine pure_ (i := 9) (N := (some 85)) (v := ?_) (a' := ?_) #[true, true, true, true, true, true, true, true, true, true, false, false, false, false, false, false] rfl rfl (any_of HT_.out (by kernel_rfl)) (fun _ _ _ h => h) (Or.inl ⟨by rfl, ?_⟩) ?_ ?_
        rotate_left
        · intro w'
          go_simp
          with_reducible rfl
        rotate_left
        · simp only [Act.put, List.setIfInBounds_toArray, List.set_cons_zero, List.set_cons_succ, i64_w, i32_w]
          rfl
        refine take_ (i := 10) (N := (some 86)) (v := ?_) (a' := ?_) #[true, true, true, true, true, true, true, true, true, true, true, false, false, false, false, false] rfl rfl (take_ofW HT_.out HW_.out (by kernel_rfl)) (fun _ _ _ h => h) (Or.inl ⟨by rfl, ?_⟩) hHeld ?_ ?_
        rotate_left
        · rintro w' ⟨hbl, t0, t1, s0, s1, s2, s3, s4, s5, s6, s7, s8, s9, s10, s11⟩
          go_simp
          with_reducible rfl
        rotate_left
        · simp only [Act.put, List.setIfInBounds_toArray, List.set_cons_zero, List.set_cons_succ, i64_w, i32_w]
          rfl
        refine pure_ (i := 11) (N := (some 87)) (v := ?_) (a' := ?_) #[true, true, true, true, true, true, true, true, true, true, true, true, false, false, false, false] rfl rfl (any_of HT_.out (by kernel_rfl)) (fun _ _ _ h => h) (Or.inl ⟨by rfl, ?_⟩) ?_ ?_
        rotate_left
        · intro w'
          go_simp
          with_reducible rfl
        rotate_left
        · simp only [Act.put, List.setIfInBounds_toArray, List.set_cons_zero, List.set_cons_succ, i64_w, i32_w]
          rfl
        refine pure_ (i := 12) (N := (some 88)) (v := ?_) (a' := ?_) #[true, true, true, true, true, true, true, true, true, true, true, true, true, false, false, false] rfl rfl (any_of HT_.out (by kernel_rfl)) (fun _ _ _ h => h) (Or.inl ⟨by rfl, ?_⟩) ?_ ?_
        rotate_left
        · intro w'
          go_simp
          with_reducible rfl
        rotate_left
        · simp only [Act.put, List.setIfInBounds_toArray, List.set_cons_zero, List.set_cons_succ, i64_w, i32_w]
          rfl
        refine take_ (i := 13) (N := (some 89)) (v := ?_) (a' := ?_) #[true, true, true, true, true, true, true, true, true, true, true, true, true, true, false, false] rfl rfl (take_ofW HT_.out HW_.out (by kernel_rfl)) (fun _ _ _ h => h) (Or.inl ⟨by rfl, ?_⟩) hHeld ?_ ?_
        rotate_left
        · rintro w' ⟨hbl, t0, t1, s0, s1, s2, s3, s4, s5, s6, s7, s8, s9, s10, s11⟩
          go_simp
          with_reducible rfl
        rotate_left
        · simp only [Act.put, List.setIfInBounds_toArray, List.set_cons_zero, List.set_cons_succ, i64_w, i32_w]
          rfl
        refine one_ (i := 14) (N := (some 90)) #[true, true, true, true, true, true, true, true, true, true, true, true, true, true, true, false] rfl rfl (one_of HT_.out (by kernel_rfl)) (by decide) (fun K hK => ?_)
        refine goes_ Tryd.func32 (by kernel_rfl) rfl #[.agg #[.int .i64 a.f0, .int .i64 a.f1, .slice pa.A2 a.f2.length pa.c2, .int .i64 a.f3, .slice pa.A4 a.f4.length pa.c4, .slice pa.A5 a.f5.length pa.c5], .agg #[.int .i64 b.f0, .int .i64 b.f1, .slice pb.A2 b.f2.length pb.c2, .int .i64 b.f3, .slice pb.A4 b.f4.length pb.c4, .slice pb.A5 b.f5.length pb.c5]] (by rfl) rfl rfl (by (try simp only [List.map_toArray, List.map_cons, List.map_nil]); first | done | rfl) ?_
        with_reducible refine (HSAME.out _ hHeld.1).mono ?_
        rintro e8 w8 ⟨rfl, hB8⟩
        refine ⟨_, rfl, ?_⟩
        refine hK.out _ _ (HKEEP.out w8 (keep_trans hHeld.1 hB8)) (fun hHeld => ?_)
        clear hK K
        refine norm_ (a' := ?_) ?_ ?_
        rotate_left
        · show Act.put _ (some 90) _ = _
          simp only [Act.put, List.setIfInBounds_toArray, List.set_cons_zero, List.set_cons_succ, i64_w, i32_w]
          rfl
        refine pure_ (i := 15) (N := (some 91)) (v := ?_) (a' := ?_) #[true, true, true, true, true, true, true, true, true, true, true, true, true, true, true, true] rfl rfl (any_of HT_.out (by kernel_rfl)) (fun _ _ _ h => h) (Or.inl ⟨by rfl, ?_⟩) ?_ ?_
        rotate_left
        · intro w'
          go_simp
          with_reducible rfl
        rotate_left
        · simp only [Act.put, List.setIfInBounds_toArray, List.set_cons_zero, List.set_cons_succ, i64_w, i32_w]
          rfl
        refine done_ (done_of HT_.out (by kernel_rfl)) ?_
        by_cases hc : i < j ∨ k < z
        · obtain rfl : sb = true := HYES.out hc
          have HBF := Aside0.mk (HB.out.trans (hHeld.1.mono HB.out.size))
          clear hHeld
          have HC2 := Aside0.mk hc
          clear hc
          go_wp2_with fail
          have hlt := HLT.out
          have hc := HC2.out
          go_roundw
          case measure => simp only [intOf]; omega
          case rel => exact ⟨k + 1, by omega, by go_num, ⟨fun h => by omega⟩, HBF⟩
        · obtain ⟨hsb, hh⟩ := HNOT.out hc
          subst hsb
          have hdq := decide_eq_true hh
          have HBL := Aside0.mk hHeld.1
          clear hHeld hh hc
          go_wp2_with fail
          refine start_ (n := 23) (S := fun w' => Below wr.heap.size wr w' ∧ w'.cell? (adu.add i) = some (.slice (some ada) u.length c1) ∧ w'.cell? (adv.add i) = some (.slice (some adb) v.length c2) ∧ w'.cell? (ada.add (k * 6)) = some (.int .i64 a.f0) ∧ w'.cell? ⟨(ada.add (k * 6)).block, (ada.add (k * 6)).off + 1, none⟩ = some (.int .i64 a.f1) ∧ w'.cell? ⟨(ada.add (k * 6)).block, (ada.add (k * 6)).off + 2, none⟩ = some (.slice pa.A2 a.f2.length pa.c2) ∧ w'.cell? ⟨(ada.add (k * 6)).block, (ada.add (k * 6)).off + 3, none⟩ = some (.int .i64 a.f3) ∧ w'.cell? ⟨(ada.add (k * 6)).block, (ada.add (k * 6)).off + 4, none⟩ = some (.slice pa.A4 a.f4.length pa.c4) ∧ w'.cell? ⟨(ada.add (k * 6)).block, (ada.add (k * 6)).off + 5, none⟩ = some (.slice pa.A5 a.f5.length pa.c5) ∧ w'.cell? (adb.add (k * 6)) = some (.int .i64 b.f0) ∧ w'.cell? ⟨(adb.add (k * 6)).block, (adb.add (k * 6)).off + 1, none⟩ = some (.int .i64 b.f1) ∧ w'.cell? ⟨(adb.add (k * 6)).block, (adb.add (k * 6)).off + 2, none⟩ = some (.slice pb.A2 b.f2.length pb.c2) ∧ w'.cell? ⟨(adb.add (k * 6)).block, (adb.add (k * 6)).off + 3, none⟩ = some (.int .i64 b.f3) ∧ w'.cell? ⟨(adb.add (k * 6)).block, (adb.add (k * 6)).off + 4, none⟩ = some (.slice pb.A4 b.f4.length pb.c4) ∧ w'.cell? ⟨(adb.add (k * 6)).block, (adb.add (k * 6)).off + 5, none⟩ = some (.slice pb.A5 b.f5.length pb.c5)) (ds := []) #[false, false, false, false, false, false, false, false, false, false, false, false, false, false, false, false, false, false, false, false, false, false, false] (by kernel_rfl) rfl rfl (HKEEP.out w8.drew (keep_trans HBL.out (below_drew (Below.refl _ _)))) (fun hHeld => ?_); refine with_tabW seekOne_tab14 seekOne_bits14 (fun HT_ HW_ => ?_)
          generalize hgw : w8.drew = w20 at hHeld ⊢
          clear hgw
          refine pure_ (i := 0) (N := (some 92)) (v := ?_) (a' := ?_) #[true, false, false, false, false, false, false, false, false, false, false, false, false, false, false, false, false, false, false, false, false, false, false] rfl rfl (any_of HT_.out (by kernel_rfl)) (fun _ _ _ h => h) (Or.inl ⟨by rfl, ?_⟩) ?_ ?_
          rotate_left
          · intro w'
            go_simp
            with_reducible rfl
          rotate_left
          · simp only [Act.put, List.setIfInBounds_toArray, List.set_cons_zero, List.set_cons_succ, i64_w, i32_w]
            rfl
          refine pure_ (i := 1) (N := (some 93)) (v := ?_) (a' := ?_) #[true, true, false, false, false, false, false, false, false, false, false, false, false, false, false, false, false, false, false, false, false, false, false] rfl rfl (any_of HT_.out (by kernel_rfl)) (fun _ _ _ h => h) (Or.inl ⟨by rfl, ?_⟩) ?_ ?_
          rotate_left
          · intro w'
            go_simp
            with_reducible rfl
          rotate_left
          · simp only [Act.put, List.setIfInBounds_toArray, List.set_cons_zero, List.set_cons_succ, i64_w, i32_w]
            rfl
          refine pure_ (i := 2) (N := (some 94)) (v := ?_) (a' := ?_) #[true, true, true, false, false, false, false, false, false, false, false, false, false, false, false, false, false, false, false, false, false, false, false] rfl rfl (any_of HT_.out (by kernel_rfl)) (fun _ _ _ h => h) (Or.inl ⟨by rfl, ?_⟩) ?_ ?_
          rotate_left
          · intro w'
            go_simp
            with_reducible rfl
          rotate_left
          · simp only [Act.put, List.setIfInBounds_toArray, List.set_cons_zero, List.set_cons_succ, i64_w, i32_w]
            rfl
          refine pure_ (i := 3) (N := (some 95)) (v := ?_) (a' := ?_) #[true, true, true, true, false, false, false, false, false, false, false, false, false, false, false, false, false, false, false, false, false, false, false] rfl rfl (any_of HT_.out (by kernel_rfl)) (fun _ _ _ h => h) (Or.inl ⟨by rfl, ?_⟩) ?_ ?_
          rotate_left
          · intro w'
            go_simp
            with_reducible rfl
          rotate_left
          · simp only [Act.put, List.setIfInBounds_toArray, List.set_cons_zero, List.set_cons_succ, i64_w, i32_w]
            rfl
          refine take_ (i := 4) (N := (some 96)) (v := ?_) (a' := ?_) #[true, true, true, true, true, false, false, false, false, false, false, false, false, false, false, false, false, false, false, false, false, false, false] rfl rfl (take_ofW HT_.out HW_.out (by kernel_rfl)) (fun _ _ _ h => h) (Or.inl ⟨by rfl, ?_⟩) hHeld ?_ ?_
          rotate_left
          · rintro w' ⟨hbl, t0, t1, s0, s1, s2, s3, s4, s5, s6, s7, s8, s9, s10, s11⟩
            go_simp
            with_reducible rfl
          rotate_left
          · simp only [Act.put, List.setIfInBounds_toArray, List.set_cons_zero, List.set_cons_succ, i64_w, i32_w]
            rfl
          refine pure_ (i := 5) (N := (some 97)) (v := ?_) (a' := ?_) #[true, true, true, true, true, true, false, false, false, false, false, false, false, false, false, false, false, false, false, false, false, false, false] rfl rfl (any_of HT_.out (by kernel_rfl)) (fun _ _ _ h => h) (Or.inl ⟨by rfl, ?_⟩) ?_ ?_
          rotate_left
          · intro w'
            go_simp
            with_reducible rfl
          rotate_left
          · simp only [Act.put, List.setIfInBounds_toArray, List.set_cons_zero, List.set_cons_succ, i64_w, i32_w]
            rfl
          refine pure_ (i := 6) (N := (some 98)) (v := ?_) (a' := ?_) #[true, true, true, true, true, true, true, false, false, false, false, false, false, false, false, false, false, false, false, false, false, false, false] rfl rfl (any_of HT_.out (by kernel_rfl)) (fun _ _ _ h => h) (Or.inl ⟨by rfl, ?_⟩) ?_ ?_
          rotate_left
          · intro w'
            go_simp
            with_reducible rfl
          rotate_left
          · simp only [Act.put, List.setIfInBounds_toArray, List.set_cons_zero, List.set_cons_succ, i64_w, i32_w]
            rfl
          refine take_ (i := 7) (N := (some 99)) (v := ?_) (a' := ?_) #[true, true, true, true, true, true, true, true, false, false, false, false, false, false, false, false, false, false, false, false, false, false, false] rfl rfl (take_ofW HT_.out HW_.out (by kernel_rfl)) (fun _ _ _ h => h) (Or.inl ⟨by rfl, ?_⟩) hHeld ?_ ?_
          rotate_left
          · rintro w' ⟨hbl, t0, t1, s0, s1, s2, s3, s4, s5, s6, s7, s8, s9, s10, s11⟩
            go_simp
            with_reducible rfl
          rotate_left
          · simp only [Act.put, List.setIfInBounds_toArray, List.set_cons_zero, List.set_cons_succ, i64_w, i32_w]
            rfl
          refine pure_ (i := 9) (N := (some 101)) (v := ?_) (a' := ?_) #[true, true, true, true, true, true, true, true, false, true, false, false, false, false, false, false, false, false, false, false, false, false, false] rfl rfl (any_of HT_.out (by kernel_rfl)) (fun _ _ _ h => h) (Or.inl ⟨by rfl, ?_⟩) ?_ ?_
          rotate_left
          · intro w'
            go_simp
            with_reducible rfl
          rotate_left
          · simp only [Act.put, List.setIfInBounds_toArray, List.set_cons_zero, List.set_cons_succ, i64_w, i32_w]
            rfl
          refine pure_ (i := 10) (N := (some 102)) (v := ?_) (a' := ?_) #[true, true, true, true, true, true, true, true, false, true, true, false, false, false, false, false, false, false, false, false, false, false, false] rfl rfl (any_of HT_.out (by kernel_rfl)) (fun _ _ _ h => h) (Or.inl ⟨by rfl, ?_⟩) ?_ ?_
          rotate_left
          · intro w'
            go_simp
            with_reducible rfl
          rotate_left
          · simp only [Act.put, List.setIfInBounds_toArray, List.set_cons_zero, List.set_cons_succ, i64_w, i32_w]
            rfl
          refine pure_ (i := 11) (N := (some 103)) (v := ?_) (a' := ?_) #[true, true, true, true, true, true, true, true, false, true, true, true, false, false, false, false, false, false, false, false, false, false, false] rfl rfl (any_of HT_.out (by kernel_rfl)) (fun _ _ _ h => h) (Or.inl ⟨by rfl, ?_⟩) ?_ ?_
          rotate_left
          · intro w'
            go_simp
            with_reducible rfl
          rotate_left
          · simp only [Act.put, List.setIfInBounds_toArray, List.set_cons_zero, List.set_cons_succ, i64_w, i32_w]
            rfl
          refine pure_ (i := 12) (N := (some 104)) (v := ?_) (a' := ?_) #[true, true, true, true, true, true, true, true, false, true, true, true, true, false, false, false, false, false, false, false, false, false, false] rfl rfl (any_of HT_.out (by kernel_rfl)) (fun _ _ _ h => h) (Or.inl ⟨by rfl, ?_⟩) ?_ ?_
          rotate_left
          · intro w'
            go_simp
            with_reducible rfl
          rotate_left
          · simp only [Act.put, List.setIfInBounds_toArray, List.set_cons_zero, List.set_cons_succ, i64_w, i32_w]
            rfl
          refine take_ (i := 13) (N := (some 105)) (v := ?_) (a' := ?_) #[true, true, true, true, true, true, true, true, false, true, true, true, true, true, false, false, false, false, false, false, false, false, false] rfl rfl (take_ofW HT_.out HW_.out (by kernel_rfl)) (fun _ _ _ h => h) (Or.inl ⟨by rfl, ?_⟩) hHeld ?_ ?_
          rotate_left
          · rintro w' ⟨hbl, t0, t1, s0, s1, s2, s3, s4, s5, s6, s7, s8, s9, s10, s11⟩
            go_simp
            with_reducible rfl
          rotate_left
          · simp only [Act.put, List.setIfInBounds_toArray, List.set_cons_zero, List.set_cons_succ, i64_w, i32_w]
            rfl
          refine pure_ (i := 14) (N := (some 106)) (v := ?_) (a' := ?_) #[true, true, true, true, true, true, true, true, false, true, true, true, true, true, true, false, false, false, false, false, false, false, false] rfl rfl (any_of HT_.out (by kernel_rfl)) (fun _ _ _ h => h) (Or.inl ⟨by rfl, ?_⟩) ?_ ?_
          rotate_left
          · intro w'
            go_simp
            with_reducible rfl
          rotate_left
          · simp only [Act.put, List.setIfInBounds_toArray, List.set_cons_zero, List.set_cons_succ, i64_w, i32_w]
            rfl
          refine pure_ (i := 15) (N := (some 107)) (v := ?_) (a' := ?_) #[true, true, true, true, true, true, true, true, false, true, true, true, true, true, true, true, false, false, false, false, false, false, false] rfl rfl (any_of HT_.out (by kernel_rfl)) (fun _ _ _ h => h) (Or.inl ⟨by rfl, ?_⟩) ?_ ?_
          rotate_left
          · intro w'
            go_simp
            with_reducible rfl
          rotate_left
          · simp only [Act.put, List.setIfInBounds_toArray, List.set_cons_zero, List.set_cons_succ, i64_w, i32_w]
            rfl
          refine take_ (i := 16) (N := (some 108)) (v := ?_) (a' := ?_) #[true, true, true, true, true, true, true, true, false, true, true, true, true, true, true, true, true, false, false, false, false, false, false] rfl rfl (take_ofW HT_.out HW_.out (by kernel_rfl)) (fun _ _ _ h => h) (Or.inl ⟨by rfl, ?_⟩) hHeld ?_ ?_
          rotate_left
          · rintro w' ⟨hbl, t0, t1, s0, s1, s2, s3, s4, s5, s6, s7, s8, s9, s10, s11⟩
            go_simp
            with_reducible rfl
          rotate_left
          · simp only [Act.put, List.setIfInBounds_toArray, List.set_cons_zero, List.set_cons_succ, i64_w, i32_w]
            rfl
          refine one_ (i := 8) (N := (some 100)) #[true, true, true, true, true, true, true, true, true, true, true, true, true, true, true, true, true, false, false, false, false, false, false] rfl rfl (one_of HT_.out (by kernel_rfl)) (by decide) (fun K hK => ?_)
          refine goes_ Tryd.func33 (by kernel_rfl) rfl #[.int .i64 size, .agg #[.int .i64 a.f0, .int .i64 a.f1, .slice pa.A2 a.f2.length pa.c2, .int .i64 a.f3, .slice pa.A4 a.f4.length pa.c4, .slice pa.A5 a.f5.length pa.c5]] (by rfl) rfl rfl (by (try simp only [List.map_toArray, List.map_cons, List.map_nil]); first | done | rfl) ?_
          with_reducible refine (HHA.out _ hHeld.1).mono ?_
          rintro e8 w8 ⟨va, rfl, hRa, hB8⟩
          obtain ⟨Aa, ca, rfl⟩ := Kd.R_slice hRa
          have HRa := Aside0.mk (Kd.R_reads' hRa)
          have HWa := Aside0.mk hB8
          clear hRa
          refine ⟨_, rfl, ?_⟩
          refine hK.out _ _ (HKEEP.out w8 (keep_trans hHeld.1 hB8)) (fun hHeld => ?_)
          clear hK K
          refine norm_ (a' := ?_) ?_ ?_
          rotate_left
          · show Act.put _ (some 100) _ = _
            simp only [Act.put, List.setIfInBounds_toArray, List.set_cons_zero, List.set_cons_succ, i64_w, i32_w]
            rfl
          refine one_ (i := 17) (N := (some 109)) #[true, true, true, true, true, true, true, true, true, true, true, true, true, true, true, true, true, true, false, false, false, false, false] rfl rfl (one_of HT_.out (by kernel_rfl)) (by decide) (fun K hK => ?_)
          refine goes_ Tryd.func33 (by kernel_rfl) rfl #[.int .i64 size, .agg #[.int .i64 b.f0, .int .i64 b.f1, .slice pb.A2 b.f2.length pb.c2, .int .i64 b.f3, .slice pb.A4 b.f4.length pb.c4, .slice pb.A5 b.f5.length pb.c5]] (by rfl) rfl rfl (by (try simp only [List.map_toArray, List.map_cons, List.map_nil]); first | done | rfl) ?_
          with_reducible refine (HHB.out _ hHeld.1).mono ?_
          rintro e8 w8 ⟨vb, rfl, hRb, hB8⟩
          obtain ⟨Ab, cb, rfl⟩ := Kd.R_slice hRb
          have HRb := Aside0.mk (Kd.R_reads' hRb)
          have HCa := Aside0.mk (Kd.C_below HRa.out.2.2 hB8)
          clear hRb
          refine ⟨_, rfl, ?_⟩
          refine hK.out _ _ (HKEEP.out w8 (keep_trans hHeld.1 hB8)) (fun hHeld => ?_)
          clear hK K
          refine norm_ (a' := ?_) ?_ ?_
          rotate_left
          · show Act.put _ (some 109) _ = _
            simp only [Act.put, List.setIfInBounds_toArray, List.set_cons_zero, List.set_cons_succ, i64_w, i32_w]
            rfl
          refine one_ (i := 18) (N := (some 110)) #[true, true, true, true, true, true, true, true, true, true, true, true, true, true, true, true, true, true, true, false, false, false, false] rfl rfl (one_of HT_.out (by kernel_rfl)) (by decide) (fun K hK => ?_)
          refine goes_ Tryd.func24 (by kernel_rfl) rfl #[.slice Aa (hashR size a).length ca, .slice Ab (hashR size b).length cb] (by rfl) rfl rfl (by (try simp only [List.map_toArray, List.map_cons, List.map_nil]); first | done | rfl) ?_
          with_reducible refine (equal_calls (hashR_ok size a) (hashR_ok size b) HCa.out HRa.out.2.1 HRb.out.2.2 HRb.out.2.1).mono ?_
          rintro e8 w8 ⟨rfl, ⟨mm, rfl⟩⟩
          refine ⟨_, rfl, ?_⟩
          refine hK.out _ _ (HKEEP.out _ (keep_trans hHeld.1 (pw_below_drewN (Below.refl _ _) mm))) (fun hHeld => ?_)
          clear hK K
          refine norm_ (a' := ?_) ?_ ?_
          rotate_left
          · show Act.put _ (some 110) _ = _
            simp only [Act.put, List.setIfInBounds_toArray, List.set_cons_zero, List.set_cons_succ, i64_w, i32_w]
            rfl
          refine pure_ (i := 19) (N := (some 111)) (v := ?_) (a' := ?_) #[true, true, true, true, true, true, true, true, true, true, true, true, true, true, true, true, true, true, true, true, false, false, false] rfl rfl (any_of HT_.out (by kernel_rfl)) (fun _ _ _ h => h) (Or.inl ⟨by rfl, ?_⟩) ?_ ?_
          rotate_left
          · intro w'
            go_simp
            with_reducible rfl
          rotate_left
          · simp only [Act.put, List.setIfInBounds_toArray, List.set_cons_zero, List.set_cons_succ, i64_w, i32_w]
            rfl
          refine one_ (i := 20) (N := (some 112)) #[true, true, true, true, true, true, true, true, true, true, true, true, true, true, true, true, true, true, true, true, true, false, false] rfl rfl (one_of HT_.out (by kernel_rfl)) (by decide) (fun K hK => ?_)
          refine goes_ Tryd.func48 (by kernel_rfl) rfl #[] (by rfl) rfl rfl (by (try simp only [List.map_toArray, List.map_cons, List.map_nil]); first | done | rfl) ?_
          with_reducible refine (awake20_calls _).mono ?_
          rintro e8 w8 ⟨rfl, hB8⟩
          refine ⟨_, rfl, ?_⟩
          refine hK.out _ _ (HKEEP.out w8 (keep_trans hHeld.1 hB8)) (fun hHeld => ?_)
          clear hK K
          refine norm_ (a' := ?_) ?_ ?_
          rotate_left
          · show Act.put _ (some 112) _ = _
            simp only [Act.put, List.setIfInBounds_toArray, List.set_cons_zero, List.set_cons_succ, i64_w, i32_w]
            rfl
          refine pure_ (i := 21) (N := (some 113)) (v := ?_) (a' := ?_) #[true, true, true, true, true, true, true, true, true, true, true, true, true, true, true, true, true, true, true, true, true, true, false] rfl rfl (any_of HT_.out (by kernel_rfl)) (fun _ _ _ h => h) (Or.inl ⟨by rfl, ?_⟩) ?_ ?_
          rotate_left
          · intro w'
            go_simp
            with_reducible rfl
          rotate_left
          · simp only [Act.put, List.setIfInBounds_toArray, List.set_cons_zero, List.set_cons_succ, i64_w, i32_w]
            rfl
          refine pure_ (i := 22) (N := (some 10)) (v := ?_) (a' := ?_) #[true, true, true, true, true, true, true, true, true, true, true, true, true, true, true, true, true, true, true, true, true, true, true] rfl rfl (any_of HT_.out (by kernel_rfl)) (fun _ _ _ h => h) (Or.inl ⟨by rfl, ?_⟩) ?_ ?_
          rotate_left
          · intro w'
            go_simp
            with_reducible rfl
          rotate_left
          · simp only [Act.put, List.setIfInBounds_toArray, List.set_cons_zero, List.set_cons_succ, i64_w, i32_w]
            rfl
          refine done_ (done_of HT_.out (by kernel_rfl)) ?_
          have HBF := Aside0.mk (HB.out.trans (hHeld.1.mono HB.out.size))
          clear hHeld
          go_wp2_with fail
          go_ret
          exact ⟨rfl, HBF.out⟩
      · have hij : i < j := by
          have h1 := HIM.out.2.1
          rcases Nat.lt_or_ge i j with h | h
          · exact h
          · have h2 : i = j := by omega
            have h3 := HKZ.out h2
            obtain ⟨h4, h5, _⟩ := HNEI.out h2
            have h6 := HMI.out
            omega
        obtain rfl : k = mi := by omega
        have HIJ := Aside0.mk hij
        clear hij hk hlt
        have q6 : (i : Int) < (m : Int) := by have := HIM.out.1; omega
        go_wp2_with fail
        have hij := HIJ.out
        have hlt := HIM.out.1
        go_roundw
        case measure => simp only [intOf]; omega
        case rel => exact ⟨i + 1, by omega, by go_num, HB⟩
end Go.Proofs.YteamljekjncbfaaDoor.P
end
