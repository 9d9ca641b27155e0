/- Lemmas of this claim, part 19. -/
import Derived.Test.YtbedgjjiinhpkaaDoorPartOne18
import Derived.Outline
section
set_option linter.unusedVariables false
set_option linter.unusedSimpArgs false
namespace Go.Proofs.YtbedgjjiinhpkaaDoor.P
open Go.RowKit Go.Proofs.YtbedgjjiinhpkaaDoor.Pure Go.Proofs.YtbedgjjiinhpkaaDoorW.PrintWords Go.Proofs.YtbedgjjiinhpkaaDoorW.PrintLast Go.Proofs.YtbedgjjiinhpkaaDoorW.PrintMore
theorem ways_part (size t : Int) : ∀ (l m : List Rec) (x r s : Rec), followS size t x l = some r → followS size t x m = some s → ¬ SameR r s → ∃ i : Nat, ∃ (h1 : i < l.length) (h2 : i < m.length), ¬ SameR l[i] m[i] ∧ hashR size l[i] = hashR size m[i] := by
  intro l
  induction l with
  | nil =>
    intro m x r s h1 h2 hn
    simp only [followS] at h1
    split at h1
    · rename_i hxt
      obtain rfl := Option.some.inj h1
      cases m with
      | nil =>
        simp only [followS] at h2
        rw [if_pos hxt] at h2
        obtain rfl := Option.some.inj h2
        exact absurd (SameR.refl _) hn
      | cons b m =>
        simp only [followS] at h2
        rw [if_pos (by omega)] at h2
        cases h2
    · cases h1
  | cons a l ih =>
    intro m x r s h1 h2 hn
    cases m with
    | nil =>
      simp only [followS] at h1 h2
      split at h2
      · rename_i hxt
        rw [if_pos (by omega)] at h1
        cases h1
      · cases h2
    | cons b m =>
      simp only [followS] at h1 h2
      split at h1
      · cases h1
      · rename_i hle
        rw [if_neg hle] at h2
        split at h1
        · rename_i ha
          split at h2
          · rename_i hb
            by_cases hs : SameR a b
            · obtain rfl := hs.eq
              obtain ⟨i, hi1, hi2, hne, heq⟩ := ih m a r s h1 h2 hn
              exact ⟨i + 1, by simpa using hi1, by simpa using hi2, by simpa using hne, by simpa using heq⟩
            · exact ⟨0, by simp, by simp, hs, by rw [List.getElem_cons_zero, List.getElem_cons_zero, ha.2.2, hb.2.2]⟩
          · cases h2
        · cases h1
theorem equal_calls {A B : Option Addr} {c d : Nat} {l m : List Int} {w : World} (hl : BytesOk l) (hm : BytesOk m) (h1 : Kd.C (Kd.int .u8) w A l.length l) (h2 : l.length ≤ c) (h3 : Kd.C (Kd.int .u8) w B m.length m) (h4 : m.length ≤ d) :
    Calls Tryd.prog 29 #[.slice A l.length c, .slice B m.length d] w fun e w' => e = .returned (.bool (decide (l = m))) ∧ Drawn0 w w' := by
  rw [← strNum_eq hl hm]
  exact bytes_Equal.calls A c l B d m _ w h1 h2 h3 h4 rfl
theorem take_min (l : List Rec) (m : Nat) (h : m = min 40 l.length) : l.take 40 = l.take m ∧ (l.take m).length = m := by
  refine ⟨?_, by rw [List.length_take]; omega⟩
  rcases Nat.le_total 40 l.length with h1 | h1
  · rw [h, Nat.min_eq_left h1]
  · rw [h, Nat.min_eq_right h1, List.take_length, List.take_of_length_le h1]
theorem rec_keep {w w' : World} {ad : Addr} {k : Nat} {x : Rec} {p : Rows6} (hb : Below w.heap.size w w') (h : w.cell? (ad.add (k * 6)) = some (.int .i64 x.f0) ∧ w.cell? ⟨(ad.add (k * 6)).block, (ad.add (k * 6)).off + 1, none⟩ = some (.int .i64 x.f1) ∧ w.cell? ⟨(ad.add (k * 6)).block, (ad.add (k * 6)).off + 2, none⟩ = some (.slice p.A2 x.f2.length p.c2) ∧ w.cell? ⟨(ad.add (k * 6)).block, (ad.add (k * 6)).off + 3, none⟩ = some (.int .i64 x.f3) ∧ w.cell? ⟨(ad.add (k * 6)).block, (ad.add (k * 6)).off + 4, none⟩ = some (.slice p.A4 x.f4.length p.c4) ∧ w.cell? ⟨(ad.add (k * 6)).block, (ad.add (k * 6)).off + 5, none⟩ = some (.slice p.A5 x.f5.length p.c5)) :
    w'.cell? (ad.add (k * 6)) = some (.int .i64 x.f0) ∧ w'.cell? ⟨(ad.add (k * 6)).block, (ad.add (k * 6)).off + 1, none⟩ = some (.int .i64 x.f1) ∧ w'.cell? ⟨(ad.add (k * 6)).block, (ad.add (k * 6)).off + 2, none⟩ = some (.slice p.A2 x.f2.length p.c2) ∧ w'.cell? ⟨(ad.add (k * 6)).block, (ad.add (k * 6)).off + 3, none⟩ = some (.int .i64 x.f3) ∧ w'.cell? ⟨(ad.add (k * 6)).block, (ad.add (k * 6)).off + 4, none⟩ = some (.slice p.A4 x.f4.length p.c4) ∧ w'.cell? ⟨(ad.add (k * 6)).block, (ad.add (k * 6)).off + 5, none⟩ = some (.slice p.A5 x.f5.length p.c5) := by
  have g : ∀ {a : Addr} {v : Value}, w.cell? a = some v → w'.cell? a = some v := fun h => (hb.cell (World.block_lt_of_cell? w _ h)).trans h
  exact ⟨g h.1, g h.2.1, g h.2.2.1, g h.2.2.2.1, g h.2.2.2.2.1, g h.2.2.2.2.2⟩
def skipOne_T9 : Bool × List (List Nat × List Nat) := (true, [([], []), ([], []), ([0, 1], [0, 1]), ([2], [2]), ([], []), ([], []), ([4, 5], [4, 5]), ([6], [6]), ([3, 7], [3, 7]), ([8], [8]), ([9, 8], [9]), ([10], [10]), ([10], [10]), ([10], [10]), ([12, 13, 10], [10, 12, 13]), ([14, 10], [10, 14]), ([11, 15, 10, 10], [10, 11, 15]), ([10], [10]), ([10], [10]), ([10], [10]), ([18, 19, 10], [10, 18, 19]), ([20, 10], [10, 20]), ([17, 21, 16, 10], [10, 17, 21]), ([16, 22, 22, 10], [10, 16, 22]), ([10, 23], [10, 23])])
def skipOne_B9 : List Nat := [0, 0, 3, 7, 0, 0, 48, 112, 255, 511, 1023, 2047, 2047, 2047, 14335, 30719, 65535, 2047, 2047, 2047, 788479, 1837055, 4194303, 8388607, 16777215]
theorem skipOne_tab9 : rtab .any (opsOf Tryd.f7 9) = skipOne_T9 := by kernel_rfl
theorem skipOne_bits9 : waitsOk skipOne_T9.2 skipOne_B9 = true := by kernel_rfl
attribute [local go_sem] max2_int min2_int max_two min_two
set_option maxHeartbeats 8000000 in
set_option maxRecDepth 100000 in
theorem skipOne_true (size : Int) (x0 : Rec) (p0 : Rows6) (Au : Option Addr) (cu : Nat) (u0 : List Rec) (Av : Option Addr) (cv : Nat) (v0 : List Rec) (t : Int) (w : World) (h0 : RecC w p0 x0) (hu : Kd.C k40 w Au u0.length u0) (huc : u0.length ≤ cu) (hv : Kd.C k40 w Av v0.length v0) (hvc : v0.length ≤ cv)
    (hs : -9223372036854775808 ≤ size ∧ size < 9223372036854775808) (ho : RecOk x0) (hou : ∀ r ∈ u0, RecOk r) (hov : ∀ r ∈ v0, RecOk r) (hGT : GlobT w) (hGS : GlobS w) :
    Calls Tryd.prog 7 #[.int .i64 size, .agg #[.int .i64 x0.f0, .int .i64 x0.f1, .slice p0.A2 x0.f2.length p0.c2, .int .i64 x0.f3, .slice p0.A4 x0.f4.length p0.c4, .slice p0.A5 x0.f5.length p0.c5], .slice Au u0.length cu, .slice Av v0.length cv, .int .i64 t] w fun e w' => e = .returned (.bool true) ∧ Below w.heap.size w w' := by
  obtain ⟨mu, hmu⟩ : ∃ m, m = min 40 u0.length := ⟨_, rfl⟩
  obtain ⟨mv, hmv⟩ : ∃ m, m = min 40 v0.length := ⟨_, rfl⟩
  obtain ⟨u, hud⟩ : ∃ u, u = u0.take mu := ⟨_, rfl⟩
  obtain ⟨v, hvd⟩ : ∃ v, v = v0.take mv := ⟨_, rfl⟩
  have hul : u.length = mu := by rw [hud]; exact (take_min u0 mu hmu).2
  have hvl : v.length = mv := by rw [hvd]; exact (take_min v0 mv hmv).2
  have e1 : (if 40 < (u0.length : Int) then (40 : Int) else (u0.length : Int)) = (u.length : Int) := by split <;> omega
  have e2 : (if 40 < u0.length then (40 : Int) else (u0.length : Int)) = (u.length : Int) := by split <;> omega
  have e3 : (if 40 < (v0.length : Int) then (40 : Int) else (v0.length : Int)) = (v.length : Int) := by split <;> omega
  have e4 : (if 40 < v0.length then (40 : Int) else (v0.length : Int)) = (v.length : Int) := by split <;> omega
  have hmc : (u.length : Int) ≤ (cu : Int) := by omega
  have hmc2 : u.length ≤ cu := by omega
  have hmc3 : (v.length : Int) ≤ (cv : Int) := by omega
  have hmc4 : v.length ≤ cv := by omega
  have HU := Aside0.mk (show Kd.C k40 w Au u.length u from by
    have := Kd.C_take hu (m := mu) (by omega)
    rwa [← hud] at this)
  have HV := Aside0.mk (show Kd.C k40 w Av v.length v from by
    have := Kd.C_take hv (m := mv) (by omega)
    rwa [← hvd] at this)
  have HOU := Aside0.mk (show ∀ r ∈ u, RecOk r from fun r hr => hou r (List.mem_of_mem_take (by rw [← hud]; exact hr)))
  have HOV := Aside0.mk (show ∀ r ∈ v, RecOk r from fun r hr => hov r (List.mem_of_mem_take (by rw [← hvd]; exact hr)))
  have HUL := Aside0.mk (show u.length ≤ 40 by omega)
  have HVL := Aside0.mk (show v.length ≤ 40 by omega)
  have H0 := Aside0.mk h0
  have HS := Aside0.mk hs
  have HO := Aside0.mk ho
  have HGT := Aside0.mk hGT
  have HGS := Aside0.mk hGS
  clear h0 hu hv hs ho hou hov hGT hGS hud hvd hul hvl hmu hmv huc hvc
  go_enter Tryd.func7, Tryd.ntmps7
  go_wp2_with fail
  go_quiet (fail)
  obtain ⟨W1, hW1⟩ : ∃ W1, W1 = (w.alloc (.cells (recL x0 p0).toArray 40)).drewN nq := ⟨_, rfl⟩
  have hB1 : Below w.heap.size w W1 := by rw [hW1]; exact pw_below_drewN (below_alloc (Below.refl _ _) _) _
  have h5 : RecB W1 w.heap.size x0 p0 := by rw [hW1]; exact (recB_new w x0 p0).below (pw_below_drewN (Below.refl _ _) _)
  have HB1 := Aside0.mk hB1
  have H5 := Aside0.mk h5
  have HW1 := Aside0.mk hW1
  obtain ⟨e0, e1', e2', e3', e4', e5⟩ := H5.out.cells
  clear hW1 hB1 h5 e1 e2 e3 e4 hmc hmc2 hmc3 hmc4
  go_wp2_with fail
  have hW1 := HW1.out
  change W1 = (w.alloc (.cells #[.int .i64 x0.f0, .int .i64 x0.f1, .slice p0.A2 x0.f2.length p0.c2, .int .i64 x0.f3, .slice p0.A4 x0.f4.length p0.c4, .slice p0.A5 x0.f5.length p0.c5] 40)).drewN nq at hW1
  rw [← hW1]
  clear HW1 hW1 e0 e1' e2' e3' e4' e5
  refine (follow_calls size x0 p0 Au cu u t W1 (H0.out.below HB1.out) (Kd.C_below HU.out HB1.out) HS.out HO.out HOU.out (GlobT.of HGT.out HB1.out) (GlobS.of HGS.out HB1.out)).mono ?_
  rintro e w2 hpost
  have hok := handed_ok size t x0 u HO.out HOU.out
  obtain ⟨X, hX⟩ : ∃ X, X = (handed (followR size x0 u t)).1 := ⟨_, rfl⟩
  obtain ⟨B, hB⟩ : ∃ B, B = (handed (followR size x0 u t)).2 := ⟨_, rfl⟩
  obtain ⟨p2, rfl, hC2, hB2⟩ := hpost
  rw [← hX] at hC2 hok
  rw [← hX, ← hB]
  unfold recAgg
  have HOKX := Aside0.mk hok
  have HX := Aside0.mk (And.intro hX hB)
  have HC2 := Aside0.mk hC2
  have HB2 := Aside0.mk (HB1.out.trans (hB2.mono HB1.out.size))
  replace H5 := Aside0.mk (H5.out.below hB2)
  clear hX hB hC2 hB2 hok HB1
  obtain ⟨e0, e1, e2, e3, e4, e5⟩ := H5.out.cells
  have hgl := H5.out.lt
  go_wp2_with fail
  clear hgl
  obtain ⟨W3, hW3⟩ : ∃ W3, W3 = w2.alloc (.cells (recL X p2).toArray 40) := ⟨_, rfl⟩
  change Calls _ _ _ (w2.alloc (.cells (recL X p2).toArray 40)) _
  rw [← hW3]
  have hB3 : Below w2.heap.size w2 W3 := by rw [hW3]; exact below_alloc (Below.refl _ _) _
  have h9 : RecB W3 w2.heap.size X p2 := by rw [hW3]; exact recB_new w2 X p2
  obtain ⟨g9, hg9⟩ : ∃ g, g = w2.heap.size := ⟨_, rfl⟩
  rw [← hg9] at h9
  rw [← hg9]
  have HB3 := Aside0.mk (HB2.out.trans (hB3.mono HB2.out.size))
  have H9 := Aside0.mk h9
  have HC3 := Aside0.mk (HC2.out.below hB3)
  clear hW3 hB3 h9 hg9 HB2 HC2 e0 e1 e2 e3 e4 e5
  refine (follow_calls size x0 p0 Av cv v t W3 (H0.out.below HB3.out) (Kd.C_below HV.out HB3.out) HS.out HO.out HOV.out (GlobT.of HGT.out HB3.out) (GlobS.of HGS.out HB3.out)).mono ?_
  rintro e w4 hpost
  have hok := handed_ok size t x0 v HO.out HOV.out
  obtain ⟨Y, hY⟩ : ∃ Y, Y = (handed (followR size x0 v t)).1 := ⟨_, rfl⟩
  obtain ⟨D, hD⟩ : ∃ D, D = (handed (followR size x0 v t)).2 := ⟨_, rfl⟩
  obtain ⟨p4, rfl, hC4, hB4⟩ := hpost
  rw [← hY] at hC4 hok
  rw [← hY, ← hD]
  unfold recAgg
  have HOKY := Aside0.mk hok
  have HY := Aside0.mk (And.intro hY hD)
  have HC4 := Aside0.mk hC4
  have HB4 := Aside0.mk (HB3.out.trans (hB4.mono HB3.out.size))
  replace H9 := Aside0.mk (H9.out.below hB4)
  have HC34 := Aside0.mk (HC3.out.below hB4)
  clear hC4 hB4 HB3 HC3 hY hD hok
  obtain ⟨d0, d1, d2, d3, d4, d5⟩ := H9.out.cells
  have hgl := H9.out.lt
  obtain ⟨W5, hW5⟩ : ∃ W5, W5 = w4.alloc (.cells (recL Y p4).toArray 40) := ⟨_, rfl⟩
  have hB5 : Below w4.heap.size w4 W5 := by rw [hW5]; exact below_alloc (Below.refl _ _) _
  have HBZ := Aside0.mk (HB4.out.trans (hB5.mono HB4.out.size))
  have HCX := Aside0.mk (HC34.out.below hB5)
  have HCY := Aside0.mk (HC4.out.below hB5)
  have HW5 := Aside0.mk (show W5 = w4.alloc (.cells #[.int .i64 Y.f0, .int .i64 Y.f1, .slice p4.A2 Y.f2.length p4.c2, .int .i64 Y.f3, .slice p4.A4 Y.f4.length p4.c4, .slice p4.A5 Y.f5.length p4.c5] 40) from hW5)
  clear hW5 hB5
  cases B with
  | false =>
    go_wp2_with fail
    rw [← HW5.out]
    refine (annalslaw14_awake.calls 1100000 true _ (GlobT.of HGT.out HBZ.out) (awake_f 1100000 (by decide))).mono ?_
    rintro e w7 ⟨rfl, hB7⟩
    have HB7 := Aside0.mk (HBZ.out.trans (hB7.mono HBZ.out.size))
    clear hB7
    go_wp2_with fail
    go_ret
    exact ⟨rfl, HB7.out⟩
  | true =>
  cases D with
  | false =>
    go_wp2_with fail
    rw [← HW5.out]
    refine (annalslaw14_awake.calls 1100000 true _ (GlobT.of HGT.out HBZ.out) (awake_f 1100000 (by decide))).mono ?_
    rintro e w7 ⟨rfl, hB7⟩
    have HB7 := Aside0.mk (HBZ.out.trans (hB7.mono HBZ.out.size))
    clear hB7
    go_wp2_with fail
    go_ret
    exact ⟨rfl, HB7.out⟩
  | true =>
  go_wp2_with fail
  rw [← HW5.out]
  refine (annalsref13_Same.calls 100 X.f0 X.f1 p2.A2 p2.c2 X.f2 X.f3 p2.A4 p2.c4 X.f4 p2.A5 p2.c5 X.f5 Y.f0 Y.f1 p4.A2 p4.c2 Y.f2 Y.f3 p4.A4 p4.c4 Y.f4 p4.A5 p4.c5 Y.f5 (decide (SameR X Y)) W5 HCX.out.g2 HCX.out.l2 HCX.out.g4 HCX.out.l4 HCX.out.g5 HCX.out.l5 HCY.out.g2 HCY.out.l2 HCY.out.g4 HCY.out.l4 HCY.out.g5 HCY.out.l5 (same_f X Y HOKX.out.1 HOKY.out.1 100 (by have := HOKX.out.2; omega) (by have := HOKX.out.2; omega))).mono ?_
  rintro e w6 ⟨rfl, hB6⟩
  replace HBZ := Aside0.mk (HBZ.out.trans (hB6.mono HBZ.out.size))
  clear hB6 d0 d1 d2 d3 d4 d5 hgl HW5 H9 HC34 HC4 HB4 HCX HCY H5
  by_cases hsame : SameR X Y
  case pos =>
    have hsd := decide_eq_true hsame
    clear hsame
    go_wp2_with fail
    refine (annalslaw14_awake.calls 1100000 true _ (GlobT.of HGT.out HBZ.out) (awake_f 1100000 (by decide))).mono ?_
    rintro e w7 ⟨rfl, hB7⟩
    have HB7 := Aside0.mk (HBZ.out.trans (hB7.mono HBZ.out.size))
    clear hB7
    go_wp2_with fail
    go_ret
    exact ⟨rfl, HB7.out⟩
  have hsd := decide_eq_false hsame
  have HPART := Aside0.mk (show ∃ i : Nat, ∃ (h1 : i < u.length) (h2 : i < v.length), ¬ SameR u[i] v[i] ∧ hashR size u[i] = hashR size v[i] from by
    have hx : ∀ (o : Option Rec) (Z : Rec), Z = (handed o).1 → true = (handed o).2 → o = some Z := fun o Z h1 h2 => by
      cases o with
      | none => cases h2
      | some y => rw [h1]; rfl
    have h1 := hx _ X HX.out.1 HX.out.2
    have h2 := hx _ Y HY.out.1 HY.out.2
    unfold followR at h1 h2
    split at h1
    · rename_i hc
      rw [if_pos hc] at h2
      exact ways_part size t u v x0 X Y h1 h2 hsame
    · cases h1)
  obtain ⟨m, hm⟩ : ∃ m, m = min u.length v.length := ⟨_, rfl⟩
  have q1 : (if (v.length : Int) < (u.length : Int) then (v.length : Int) else (u.length : Int)) = (m : Int) := by split <;> omega
  have q2 : (if v.length < u.length then (v.length : Int) else (u.length : Int)) = (m : Int) := by split <;> omega
  have HM := Aside0.mk hm
  clear hsame hm
  go_wp2_with fail
  clear q1 q2 hsd
  go_loopw [59] (fun v59 wr => ∃ k : Nat, k ≤ m ∧ v59 = .int .i64 (k : Int) ∧ Aside0 (∃ i : Nat, k ≤ i ∧ ∃ (h1 : i < u.length) (h2 : i < v.length), ¬ SameR u[i] v[i] ∧ hashR size u[i] = hashR size v[i]) ∧ Aside0 (Below w.heap.size w wr)) (fun v59 _ => m - (intOf v59).toNat)
  case atStart => exact ⟨0, Nat.zero_le _, rfl, ⟨by obtain ⟨i, h1, h2, h3⟩ := HPART.out; exact ⟨i, Nat.zero_le _, h1, h2, h3⟩⟩, HBZ⟩
  case round =>
    clear HPART HBZ
    obtain ⟨k, hk, rfl, HPART, HB⟩ := hrel
    have hm40 : m ≤ 40 := by have := HM.out; have := HUL.out; omega
    have hlt : k < m := by
      obtain ⟨i, h0, h1, h2, h3⟩ := HPART.out
      have := HM.out
      omega
    have hku : k < u.length := by have := HM.out; omega
    have hkv : k < v.length := by have := HM.out; omega
    have hd : decide ((k : Int) < (m : Int)) = true := by simp; omega
    have hd2 : decide (k < m) = true := decide_eq_true hlt
    have qu : (k : Int) < (u.length : Int) := by omega
    have qv : (k : Int) < (v.length : Int) := by omega
    obtain ⟨ada, pa, hAu, hRa, a0, a1, a2, a3, a4, a5⟩ := rec_at HU.out k hku
    obtain ⟨adb, pb, hAv, hRb, b0, b1, b2, b3, b4, b5⟩ := rec_at HV.out k hkv
    subst hAu
    subst hAv
    have hra : ∀ (l : List Rec) (h : k < l.length), rd_T40 l (k : Int) = l[k] := fun l h => by
      unfold rd_T40
      rw [Int.toNat_natCast, List.getD_eq_getElem?_getD, List.getElem?_eq_getElem h]
      rfl
    rw [hra u hku] at hRa a0 a1 a2 a3 a4 a5
    rw [hra v hkv] at hRb b0 b1 b2 b3 b4 b5
    obtain ⟨a, ha⟩ : ∃ a, a = u[k] := ⟨_, rfl⟩
    obtain ⟨b, hb⟩ : ∃ b, b = v[k] := ⟨_, rfl⟩
    have HOA := Aside0.mk (show RecOk a by rw [ha]; exact HOU.out _ (List.getElem_mem hku))
    have HOB := Aside0.mk (show RecOk b by rw [hb]; exact HOV.out _ (List.getElem_mem hkv))
    rw [← ha] at hRa a0 a1 a2 a3 a4 a5
    rw [← hb] at hRb b0 b1 b2 b3 b4 b5
    have HKEEP := Aside0.mk (show ∀ w' : World, Below wr.heap.size wr w' → (Below wr.heap.size wr w' ∧ w'.cell? (ada.add (k * 6)) = some (.int .i64 a.f0) ∧ w'.cell? ⟨(ada.add (k * 6)).block, (ada.add (k * 6)).off + 1, none⟩ = some (.int .i64 a.f1) ∧ w'.cell? ⟨(ada.add (k * 6)).block, (ada.add (k * 6)).off + 2, none⟩ = some (.slice pa.A2 a.f2.length pa.c2) ∧ w'.cell? ⟨(ada.add (k * 6)).block, (ada.add (k * 6)).off + 3, none⟩ = some (.int .i64 a.f3) ∧ w'.cell? ⟨(ada.add (k * 6)).block, (ada.add (k * 6)).off + 4, none⟩ = some (.slice pa.A4 a.f4.length pa.c4) ∧ w'.cell? ⟨(ada.add (k * 6)).block, (ada.add (k * 6)).off + 5, none⟩ = some (.slice pa.A5 a.f5.length pa.c5) ∧ w'.cell? (adb.add (k * 6)) = some (.int .i64 b.f0) ∧ w'.cell? ⟨(adb.add (k * 6)).block, (adb.add (k * 6)).off + 1, none⟩ = some (.int .i64 b.f1) ∧ w'.cell? ⟨(adb.add (k * 6)).block, (adb.add (k * 6)).off + 2, none⟩ = some (.slice pb.A2 b.f2.length pb.c2) ∧ w'.cell? ⟨(adb.add (k * 6)).block, (adb.add (k * 6)).off + 3, none⟩ = some (.int .i64 b.f3) ∧ w'.cell? ⟨(adb.add (k * 6)).block, (adb.add (k * 6)).off + 4, none⟩ = some (.slice pb.A4 b.f4.length pb.c4) ∧ w'.cell? ⟨(adb.add (k * 6)).block, (adb.add (k * 6)).off + 5, none⟩ = some (.slice pb.A5 b.f5.length pb.c5)) from fun w' hb' => by
      have hw := HB.out.trans (hb'.mono HB.out.size)
      have ka := rec_keep hw ⟨a0, a1, a2, a3, a4, a5⟩
      have kb := rec_keep hw ⟨b0, b1, b2, b3, b4, b5⟩
      exact ⟨hb', ka.1, ka.2.1, ka.2.2.1, ka.2.2.2.1, ka.2.2.2.2.1, ka.2.2.2.2.2, kb.1, kb.2.1, kb.2.2.1, kb.2.2.2.1, kb.2.2.2.2.1, kb.2.2.2.2.2⟩)
    have HSAME := Aside0.mk (show ∀ W : World, Below wr.heap.size wr W → Calls Tryd.prog 37 #[.agg #[.int .i64 a.f0, .int .i64 a.f1, .slice pa.A2 a.f2.length pa.c2, .int .i64 a.f3, .slice pa.A4 a.f4.length pa.c4, .slice pa.A5 a.f5.length pa.c5], .agg #[.int .i64 b.f0, .int .i64 b.f1, .slice pb.A2 b.f2.length pb.c2, .int .i64 b.f3, .slice pb.A4 b.f4.length pb.c4, .slice pb.A5 b.f5.length pb.c5]] W fun e8 w8 => e8 = .returned (.bool (decide (SameR a b))) ∧ Below W.heap.size W w8 from fun W hb' => by
      have hw := HB.out.trans (hb'.mono HB.out.size)
      have ca := hRa.below hw
      have cb := hRb.below hw
      have hal := HU.out
      exact annalsref13_Same.calls (a.f5.length + 3) a.f0 a.f1 pa.A2 pa.c2 a.f2 a.f3 pa.A4 pa.c4 a.f4 pa.A5 pa.c5 a.f5 b.f0 b.f1 pb.A2 pb.c2 b.f2 b.f3 pb.A4 pb.c4 b.f4 pb.A5 pb.c5 b.f5 (decide (SameR a b)) W ca.g2 ca.l2 ca.g4 ca.l4 ca.g5 ca.l5 cb.g2 cb.l2 cb.g4 cb.l4 cb.g5 cb.l5 (same_f a b HOA.out HOB.out (a.f5.length + 3) (by omega) (by have := ca.g5.2.1; omega)))
    have HHA := Aside0.mk (show ∀ W : World, Below wr.heap.size wr W → Calls Tryd.prog 38 #[.int .i64 size, .agg #[.int .i64 a.f0, .int .i64 a.f1, .slice pa.A2 a.f2.length pa.c2, .int .i64 a.f3, .slice pa.A4 a.f4.length pa.c4, .slice pa.A5 a.f5.length pa.c5]] W fun e8 w8 => ∃ v0_ : Value, e8 = .returned v0_ ∧ Kd.R (Kd.int .u8) 5 w8 W.heap.size (fun _ => True) v0_ (hashR size a) ∧ Below W.heap.size W w8 from fun W hb' => by
      have ca := hRa.below (HB.out.trans (hb'.mono HB.out.size))
      exact annalsref13_Hash.calls 200 size a.f0 a.f1 pa.A2 pa.c2 a.f2 a.f3 pa.A4 pa.c4 a.f4 pa.A5 pa.c5 a.f5 (hashR size a) W ca.g2 ca.l2 ca.g4 ca.l4 ca.g5 ca.l5 (rhashR_f size a HOA.out 200 (by decide)))
    have HHB := Aside0.mk (show ∀ W : World, Below wr.heap.size wr W → Calls Tryd.prog 38 #[.int .i64 size, .agg #[.int .i64 b.f0, .int .i64 b.f1, .slice pb.A2 b.f2.length pb.c2, .int .i64 b.f3, .slice pb.A4 b.f4.length pb.c4, .slice pb.A5 b.f5.length pb.c5]] W fun e8 w8 => ∃ v0_ : Value, e8 = .returned v0_ ∧ Kd.R (Kd.int .u8) 5 w8 W.heap.size (fun _ => True) v0_ (hashR size b) ∧ Below W.heap.size W w8 from fun W hb' => by
      have cb := hRb.below (HB.out.trans (hb'.mono HB.out.size))
      exact annalsref13_Hash.calls 200 size b.f0 b.f1 pb.A2 pb.c2 b.f2 b.f3 pb.A4 pb.c4 b.f4 pb.A5 pb.c5 b.f5 (hashR size b) W cb.g2 cb.l2 cb.g4 cb.l4 cb.g5 cb.l5 (rhashR_f size b HOB.out 200 (by decide)))
    have HNEXT := Aside0.mk (show SameR a b ∨ hashR size a ≠ hashR size b → ∃ i : Nat, k + 1 ≤ i ∧ ∃ (h1 : i < u.length) (h2 : i < v.length), ¬ SameR u[i] v[i] ∧ hashR size u[i] = hashR size v[i] from fun hc => by
      obtain ⟨i, h0, h1, h2, h3, h4⟩ := HPART.out
      by_cases hik : i = k
      · subst hik
        rw [← ha, ← hb] at h3 h4
        rcases hc with hc | hc
        · exact absurd hc h3
        · exact absurd h4 hc
      · exact ⟨i, by omega, h1, h2, h3, h4⟩)
    have HLT := Aside0.mk hlt
    clear ha hb hra hRa hRb a0 a1 a2 a3 a4 a5 b0 b1 b2 b3 b4 b5 hku hkv hlt hk
    go_wp2_with fail
    by_cases hsm : SameR a b
    · have HN2 := Aside0.mk (HNEXT.out (.inl hsm))
      rw [decide_eq_true hsm] at HSAME
      clear hsm
      refine start_ (n := 25) (S := fun w' => Below wr.heap.size wr w' ∧ w'.cell? (ada.add (k * 6)) = some (.int .i64 a.f0) ∧ w'.cell? ⟨(ada.add (k * 6)).block, (ada.add (k * 6)).off + 1, none⟩ = some (.int .i64 a.f1) ∧ w'.cell? ⟨(ada.add (k * 6)).block, (ada.add (k * 6)).off + 2, none⟩ = some (.slice pa.A2 a.f2.length pa.c2) ∧ w'.cell? ⟨(ada.add (k * 6)).block, (ada.add (k * 6)).off + 3, none⟩ = some (.int .i64 a.f3) ∧ w'.cell? ⟨(ada.add (k * 6)).block, (ada.add (k * 6)).off + 4, none⟩ = some (.slice pa.A4 a.f4.length pa.c4) ∧ w'.cell? ⟨(ada.add (k * 6)).block, (ada.add (k * 6)).off + 5, none⟩ = some (.slice pa.A5 a.f5.length pa.c5) ∧ w'.cell? (adb.add (k * 6)) = some (.int .i64 b.f0) ∧ w'.cell? ⟨(adb.add (k * 6)).block, (adb.add (k * 6)).off + 1, none⟩ = some (.int .i64 b.f1) ∧ w'.cell? ⟨(adb.add (k * 6)).block, (adb.add (k * 6)).off + 2, none⟩ = some (.slice pb.A2 b.f2.length pb.c2) ∧ w'.cell? ⟨(adb.add (k * 6)).block, (adb.add (k * 6)).off + 3, none⟩ = some (.int .i64 b.f3) ∧ w'.cell? ⟨(adb.add (k * 6)).block, (adb.add (k * 6)).off + 4, none⟩ = some (.slice pb.A4 b.f4.length pb.c4) ∧ w'.cell? ⟨(adb.add (k * 6)).block, (adb.add (k * 6)).off + 5, none⟩ = some (.slice pb.A5 b.f5.length pb.c5)) (ds := []) #[false, false, false, false, false, false, false, false, false, false, false, false, false, false, false, false, false, false, false, false, false, false, false, false, false] (by kernel_rfl) rfl rfl (HKEEP.out wr.drew (below_drew (Below.refl _ _))) (fun hHeld => ?_); refine with_tabW skipOne_tab9 skipOne_bits9 (fun HT_ HW_ => ?_)
      generalize hgw : wr.drew = w18 at hHeld ⊢
      clear hgw
      refine pure_ (i := 0) (N := (some 62)) (v := ?_) (a' := ?_) #[true, false, false, false, false, false, false, false, false, false, false, false, false, false, false, false, false, false, false, false, false, false, false, false, false] rfl rfl (any_of HT_.out (by kernel_rfl)) (fun _ _ _ h => h) (Or.inl ⟨by rfl, ?_⟩) ?_ ?_
      rotate_left
      · intro w'
        go_simp
        with_reducible rfl
      rotate_left
      · simp only [Act.put, List.setIfInBounds_toArray, List.set_cons_zero, List.set_cons_succ, i64_w, i32_w]
        rfl
      refine pure_ (i := 1) (N := (some 63)) (v := ?_) (a' := ?_) #[true, true, false, false, false, false, false, false, false, false, false, false, false, false, false, false, false, false, false, false, false, false, false, false, false] rfl rfl (any_of HT_.out (by kernel_rfl)) (fun _ _ _ h => h) (Or.inl ⟨by rfl, ?_⟩) ?_ ?_
      rotate_left
      · intro w'
        go_simp
        with_reducible rfl
      rotate_left
      · simp only [Act.put, List.setIfInBounds_toArray, List.set_cons_zero, List.set_cons_succ, i64_w, i32_w]
        rfl
      refine pure_ (i := 2) (N := (some 64)) (v := ?_) (a' := ?_) #[true, true, true, false, false, false, false, false, false, false, false, false, false, false, false, false, false, false, false, false, false, false, false, false, false] rfl rfl (any_of HT_.out (by kernel_rfl)) (fun _ _ _ h => h) (Or.inl ⟨by rfl, ?_⟩) ?_ ?_
      rotate_left
      · intro w'
        go_simp
        with_reducible rfl
      rotate_left
      · simp only [Act.put, List.setIfInBounds_toArray, List.set_cons_zero, List.set_cons_succ, i64_w, i32_w]
        rfl
      refine take_ (i := 3) (N := (some 65)) (v := ?_) (a' := ?_) #[true, true, true, true, false, false, false, false, false, false, false, false, false, false, false, false, false, false, false, false, false, false, false, false, false] rfl rfl (take_ofW HT_.out HW_.out (by kernel_rfl)) (fun _ _ _ h => h) (Or.inl ⟨by rfl, ?_⟩) hHeld ?_ ?_
      rotate_left
      · rintro w' ⟨hbl, s0, s1, s2, s3, s4, s5, s6, s7, s8, s9, s10, s11⟩
        go_simp
        with_reducible rfl
      rotate_left
      · simp only [Act.put, List.setIfInBounds_toArray, List.set_cons_zero, List.set_cons_succ, i64_w, i32_w]
        rfl
      refine pure_ (i := 4) (N := (some 66)) (v := ?_) (a' := ?_) #[true, true, true, true, true, false, false, false, false, false, false, false, false, false, false, false, false, false, false, false, false, false, false, false, false] rfl rfl (any_of HT_.out (by kernel_rfl)) (fun _ _ _ h => h) (Or.inl ⟨by rfl, ?_⟩) ?_ ?_
      rotate_left
      · intro w'
        go_simp
        with_reducible rfl
      rotate_left
      · simp only [Act.put, List.setIfInBounds_toArray, List.set_cons_zero, List.set_cons_succ, i64_w, i32_w]
        rfl
      refine pure_ (i := 5) (N := (some 67)) (v := ?_) (a' := ?_) #[true, true, true, true, true, true, false, false, false, false, false, false, false, false, false, false, false, false, false, false, false, false, false, false, false] rfl rfl (any_of HT_.out (by kernel_rfl)) (fun _ _ _ h => h) (Or.inl ⟨by rfl, ?_⟩) ?_ ?_
      rotate_left
      · intro w'
        go_simp
        with_reducible rfl
      rotate_left
      · simp only [Act.put, List.setIfInBounds_toArray, List.set_cons_zero, List.set_cons_succ, i64_w, i32_w]
        rfl
      refine pure_ (i := 6) (N := (some 68)) (v := ?_) (a' := ?_) #[true, true, true, true, true, true, true, false, false, false, false, false, false, false, false, false, false, false, false, false, false, false, false, false, false] rfl rfl (any_of HT_.out (by kernel_rfl)) (fun _ _ _ h => h) (Or.inl ⟨by rfl, ?_⟩) ?_ ?_
      rotate_left
      · intro w'
        go_simp
        with_reducible rfl
      rotate_left
      · simp only [Act.put, List.setIfInBounds_toArray, List.set_cons_zero, List.set_cons_succ, i64_w, i32_w]
        rfl
      refine take_ (i := 7) (N := (some 69)) (v := ?_) (a' := ?_) #[true, true, true, true, true, true, true, true, false, false, false, false, false, false, false, false, false, false, false, false, false, false, false, false, false] rfl rfl (take_ofW HT_.out HW_.out (by kernel_rfl)) (fun _ _ _ h => h) (Or.inl ⟨by rfl, ?_⟩) hHeld ?_ ?_
      rotate_left
      · rintro w' ⟨hbl, s0, s1, s2, s3, s4, s5, s6, s7, s8, s9, s10, s11⟩
        go_simp
        with_reducible rfl
      rotate_left
      · simp only [Act.put, List.setIfInBounds_toArray, List.set_cons_zero, List.set_cons_succ, i64_w, i32_w]
        rfl
      refine one_ (i := 8) (N := (some 70)) #[true, true, true, true, true, true, true, true, true, false, false, false, false, false, false, false, false, false, false, false, false, false, false, false, false] rfl rfl (one_of HT_.out (by kernel_rfl)) (by decide) (fun K hK => ?_)
      refine goes_ Tryd.func37 (by kernel_rfl) rfl #[.agg #[.int .i64 a.f0, .int .i64 a.f1, .slice pa.A2 a.f2.length pa.c2, .int .i64 a.f3, .slice pa.A4 a.f4.length pa.c4, .slice pa.A5 a.f5.length pa.c5], .agg #[.int .i64 b.f0, .int .i64 b.f1, .slice pb.A2 b.f2.length pb.c2, .int .i64 b.f3, .slice pb.A4 b.f4.length pb.c4, .slice pb.A5 b.f5.length pb.c5]] (by rfl) rfl rfl (by (try simp only [List.map_toArray, List.map_cons, List.map_nil]); first | done | rfl) ?_
      with_reducible refine (HSAME.out _ hHeld.1).mono ?_
      rintro e8 w8 ⟨rfl, hB8⟩
      refine ⟨_, rfl, ?_⟩
      refine hK.out _ _ (HKEEP.out w8 (keep_trans hHeld.1 hB8)) (fun hHeld => ?_)
      clear hK K
      refine norm_ (a' := ?_) ?_ ?_
      rotate_left
      · show Act.put _ (some 70) _ = _
        simp only [Act.put, List.setIfInBounds_toArray, List.set_cons_zero, List.set_cons_succ, i64_w, i32_w]
        rfl
      refine pure_ (i := 9) (N := (some 71)) (v := ?_) (a' := ?_) #[true, true, true, true, true, true, true, true, true, true, false, false, false, false, false, false, false, false, false, false, false, false, false, false, false] rfl rfl (any_of HT_.out (by kernel_rfl)) (fun _ _ _ h => h) (Or.inl ⟨by rfl, ?_⟩) ?_ ?_
      rotate_left
      · intro w'
        go_simp
        with_reducible rfl
      rotate_left
      · simp only [Act.put, List.setIfInBounds_toArray, List.set_cons_zero, List.set_cons_succ, i64_w, i32_w]
        rfl
      refine pure_ (i := 10) (N := (some 72)) (v := ?_) (a' := ?_) #[true, true, true, true, true, true, true, true, true, true, true, false, false, false, false, false, false, false, false, false, false, false, false, false, false] rfl rfl (any_of HT_.out (by kernel_rfl)) (fun _ _ _ h => h) (Or.inl ⟨by rfl, ?_⟩) ?_ ?_
      rotate_left
      · intro w'
        go_simp
        with_reducible rfl
      rotate_left
      · simp only [Act.put, List.setIfInBounds_toArray, List.set_cons_zero, List.set_cons_succ, i64_w, i32_w]
        rfl
      refine pure_ (i := 11) (N := (some 73)) (v := undef) (a' := ?_) #[true, true, true, true, true, true, true, true, true, true, true, true, false, false, false, false, false, false, false, false, false, false, false, false, false] rfl rfl (any_of HT_.out (by kernel_rfl)) (fun _ _ _ h => h) (Or.inr ⟨by rfl, rfl⟩) ?_ ?_
      rotate_left
      · simp only [Act.put, List.setIfInBounds_toArray, List.set_cons_zero, List.set_cons_succ, i64_w, i32_w]
        rfl
      refine pure_ (i := 12) (N := (some 74)) (v := undef) (a' := ?_) #[true, true, true, true, true, true, true, true, true, true, true, true, true, false, false, false, false, false, false, false, false, false, false, false, false] rfl rfl (any_of HT_.out (by kernel_rfl)) (fun _ _ _ h => h) (Or.inr ⟨by rfl, rfl⟩) ?_ ?_
      rotate_left
      · simp only [Act.put, List.setIfInBounds_toArray, List.set_cons_zero, List.set_cons_succ, i64_w, i32_w]
        rfl
      refine pure_ (i := 13) (N := (some 75)) (v := undef) (a' := ?_) #[true, true, true, true, true, true, true, true, true, true, true, true, true, true, false, false, false, false, false, false, false, false, false, false, false] rfl rfl (any_of HT_.out (by kernel_rfl)) (fun _ _ _ h => h) (Or.inr ⟨by rfl, rfl⟩) ?_ ?_
      rotate_left
      · simp only [Act.put, List.setIfInBounds_toArray, List.set_cons_zero, List.set_cons_succ, i64_w, i32_w]
        rfl
      refine pure_ (i := 14) (N := (some 76)) (v := undef) (a' := ?_) #[true, true, true, true, true, true, true, true, true, true, true, true, true, true, true, false, false, false, false, false, false, false, false, false, false] rfl rfl (any_of HT_.out (by kernel_rfl)) (fun _ _ _ h => h) (Or.inr ⟨by rfl, rfl⟩) ?_ ?_
      rotate_left
      · simp only [Act.put, List.setIfInBounds_toArray, List.set_cons_zero, List.set_cons_succ, i64_w, i32_w]
        rfl
      refine pure_ (i := 15) (N := (some 77)) (v := undef) (a' := ?_) #[true, true, true, true, true, true, true, true, true, true, true, true, true, true, true, true, false, false, false, false, false, false, false, false, false] rfl rfl (any_of HT_.out (by kernel_rfl)) (fun _ _ _ h => h) (Or.inr ⟨by rfl, rfl⟩) ?_ ?_
      rotate_left
      · simp only [Act.put, List.setIfInBounds_toArray, List.set_cons_zero, List.set_cons_succ, i64_w, i32_w]
        rfl
      refine pure_ (i := 17) (N := (some 79)) (v := undef) (a' := ?_) #[true, true, true, true, true, true, true, true, true, true, true, true, true, true, true, true, false, true, false, false, false, false, false, false, false] rfl rfl (any_of HT_.out (by kernel_rfl)) (fun _ _ _ h => h) (Or.inr ⟨by rfl, rfl⟩) ?_ ?_
      rotate_left
      · simp only [Act.put, List.setIfInBounds_toArray, List.set_cons_zero, List.set_cons_succ, i64_w, i32_w]
        rfl
      refine pure_ (i := 18) (N := (some 80)) (v := undef) (a' := ?_) #[true, true, true, true, true, true, true, true, true, true, true, true, true, true, true, true, false, true, true, false, false, false, false, false, false] rfl rfl (any_of HT_.out (by kernel_rfl)) (fun _ _ _ h => h) (Or.inr ⟨by rfl, rfl⟩) ?_ ?_
      rotate_left
      · simp only [Act.put, List.setIfInBounds_toArray, List.set_cons_zero, List.set_cons_succ, i64_w, i32_w]
        rfl
      refine pure_ (i := 19) (N := (some 81)) (v := undef) (a' := ?_) #[true, true, true, true, true, true, true, true, true, true, true, true, true, true, true, true, false, true, true, true, false, false, false, false, false] rfl rfl (any_of HT_.out (by kernel_rfl)) (fun _ _ _ h => h) (Or.inr ⟨by rfl, rfl⟩) ?_ ?_
      rotate_left
      · simp only [Act.put, List.setIfInBounds_toArray, List.set_cons_zero, List.set_cons_succ, i64_w, i32_w]
        rfl
      refine pure_ (i := 20) (N := (some 82)) (v := undef) (a' := ?_) #[true, true, true, true, true, true, true, true, true, true, true, true, true, true, true, true, false, true, true, true, true, false, false, false, false] rfl rfl (any_of HT_.out (by kernel_rfl)) (fun _ _ _ h => h) (Or.inr ⟨by rfl, rfl⟩) ?_ ?_
      rotate_left
      · simp only [Act.put, List.setIfInBounds_toArray, List.set_cons_zero, List.set_cons_succ, i64_w, i32_w]
        rfl
      refine pure_ (i := 21) (N := (some 83)) (v := undef) (a' := ?_) #[true, true, true, true, true, true, true, true, true, true, true, true, true, true, true, true, false, true, true, true, true, true, false, false, false] rfl rfl (any_of HT_.out (by kernel_rfl)) (fun _ _ _ h => h) (Or.inr ⟨by rfl, rfl⟩) ?_ ?_
      rotate_left
      · simp only [Act.put, List.setIfInBounds_toArray, List.set_cons_zero, List.set_cons_succ, i64_w, i32_w]
        rfl
      refine pure_ (i := 16) (N := (some 78)) (v := undef) (a' := ?_) #[true, true, true, true, true, true, true, true, true, true, true, true, true, true, true, true, true, true, true, true, true, true, false, false, false] rfl rfl (any_of HT_.out (by kernel_rfl)) (fun _ _ _ h => h) (Or.inr ⟨by rfl, rfl⟩) ?_ ?_
      rotate_left
      · simp only [Act.put, List.setIfInBounds_toArray, List.set_cons_zero, List.set_cons_succ, i64_w, i32_w]
        rfl
      refine pure_ (i := 22) (N := (some 84)) (v := undef) (a' := ?_) #[true, true, true, true, true, true, true, true, true, true, true, true, true, true, true, true, true, true, true, true, true, true, true, false, false] rfl rfl (any_of HT_.out (by kernel_rfl)) (fun _ _ _ h => h) (Or.inr ⟨by rfl, rfl⟩) ?_ ?_
      rotate_left
      · simp only [Act.put, List.setIfInBounds_toArray, List.set_cons_zero, List.set_cons_succ, i64_w, i32_w]
        rfl
      refine pure_ (i := 23) (N := (some 85)) (v := undef) (a' := ?_) #[true, true, true, true, true, true, true, true, true, true, true, true, true, true, true, true, true, true, true, true, true, true, true, true, false] rfl rfl (any_of HT_.out (by kernel_rfl)) (fun _ _ _ h => h) (Or.inr ⟨by rfl, rfl⟩) ?_ ?_
      rotate_left
      · simp only [Act.put, List.setIfInBounds_toArray, List.set_cons_zero, List.set_cons_succ, i64_w, i32_w]
        rfl
      refine pure_ (i := 24) (N := (some 86)) (v := ?_) (a' := ?_) #[true, true, true, true, true, true, true, true, true, true, true, true, true, true, true, true, true, true, true, true, true, true, true, true, true] rfl rfl (any_of HT_.out (by kernel_rfl)) (fun _ _ _ h => h) (Or.inl ⟨by rfl, ?_⟩) ?_ ?_
      rotate_left
      · intro w'
        go_simp
        with_reducible rfl
      rotate_left
      · simp only [Act.put, List.setIfInBounds_toArray, List.set_cons_zero, List.set_cons_succ, i64_w, i32_w]
        rfl
      refine done_ (done_of HT_.out (by kernel_rfl)) ?_
      have HBF := Aside0.mk (HB.out.trans (hHeld.1.mono HB.out.size))
      clear hHeld
      have hlt := HLT.out
      go_wp2_with fail
      go_roundw
      case measure => simp only [intOf]; omega
      case rel => exact ⟨k + 1, by omega, by go_num, HN2, HBF⟩
    · rw [decide_eq_false hsm] at HSAME
      by_cases hh : hashR size a = hashR size b
      · have hdq := decide_eq_true hh
        clear hsm hh
        refine start_ (n := 25) (S := fun w' => Below wr.heap.size wr w' ∧ w'.cell? (ada.add (k * 6)) = some (.int .i64 a.f0) ∧ w'.cell? ⟨(ada.add (k * 6)).block, (ada.add (k * 6)).off + 1, none⟩ = some (.int .i64 a.f1) ∧ w'.cell? ⟨(ada.add (k * 6)).block, (ada.add (k * 6)).off + 2, none⟩ = some (.slice pa.A2 a.f2.length pa.c2) ∧ w'.cell? ⟨(ada.add (k * 6)).block, (ada.add (k * 6)).off + 3, none⟩ = some (.int .i64 a.f3) ∧ w'.cell? ⟨(ada.add (k * 6)).block, (ada.add (k * 6)).off + 4, none⟩ = some (.slice pa.A4 a.f4.length pa.c4) ∧ w'.cell? ⟨(ada.add (k * 6)).block, (ada.add (k * 6)).off + 5, none⟩ = some (.slice pa.A5 a.f5.length pa.c5) ∧ w'.cell? (adb.add (k * 6)) = some (.int .i64 b.f0) ∧ w'.cell? ⟨(adb.add (k * 6)).block, (adb.add (k * 6)).off + 1, none⟩ = some (.int .i64 b.f1) ∧ w'.cell? ⟨(adb.add (k * 6)).block, (adb.add (k * 6)).off + 2, none⟩ = some (.slice pb.A2 b.f2.length pb.c2) ∧ w'.cell? ⟨(adb.add (k * 6)).block, (adb.add (k * 6)).off + 3, none⟩ = some (.int .i64 b.f3) ∧ w'.cell? ⟨(adb.add (k * 6)).block, (adb.add (k * 6)).off + 4, none⟩ = some (.slice pb.A4 b.f4.length pb.c4) ∧ w'.cell? ⟨(adb.add (k * 6)).block, (adb.add (k * 6)).off + 5, none⟩ = some (.slice pb.A5 b.f5.length pb.c5)) (ds := []) #[false, false, false, false, false, false, false, false, false, false, false, false, false, false, false, false, false, false, false, false, false, false, false, false, false] (by kernel_rfl) rfl rfl (HKEEP.out wr.drew (below_drew (Below.refl _ _))) (fun hHeld => ?_); refine with_tabW skipOne_tab9 skipOne_bits9 (fun HT_ HW_ => ?_)
        generalize hgw : wr.drew = w18 at hHeld ⊢
        clear hgw
        refine pure_ (i := 0) (N := (some 62)) (v := ?_) (a' := ?_) #[true, false, false, false, false, false, false, false, false, false, false, false, false, false, false, false, false, false, false, false, false, false, false, false, false] rfl rfl (any_of HT_.out (by kernel_rfl)) (fun _ _ _ h => h) (Or.inl ⟨by rfl, ?_⟩) ?_ ?_
        rotate_left
        · intro w'
          go_simp
          with_reducible rfl
        rotate_left
        · simp only [Act.put, List.setIfInBounds_toArray, List.set_cons_zero, List.set_cons_succ, i64_w, i32_w]
          rfl
        refine pure_ (i := 1) (N := (some 63)) (v := ?_) (a' := ?_) #[true, true, false, false, false, false, false, false, false, false, false, false, false, false, false, false, false, false, false, false, false, false, false, false, false] rfl rfl (any_of HT_.out (by kernel_rfl)) (fun _ _ _ h => h) (Or.inl ⟨by rfl, ?_⟩) ?_ ?_
        rotate_left
        · intro w'
          go_simp
          with_reducible rfl
        rotate_left
        · simp only [Act.put, List.setIfInBounds_toArray, List.set_cons_zero, List.set_cons_succ, i64_w, i32_w]
          rfl
        refine pure_ (i := 2) (N := (some 64)) (v := ?_) (a' := ?_) #[true, true, true, false, false, false, false, false, false, false, false, false, false, false, false, false, false, false, false, false, false, false, false, false, false] rfl rfl (any_of HT_.out (by kernel_rfl)) (fun _ _ _ h => h) (Or.inl ⟨by rfl, ?_⟩) ?_ ?_
        rotate_left
        · intro w'
          go_simp
          with_reducible rfl
        rotate_left
        · simp only [Act.put, List.setIfInBounds_toArray, List.set_cons_zero, List.set_cons_succ, i64_w, i32_w]
          rfl
        refine take_ (i := 3) (N := (some 65)) (v := ?_) (a' := ?_) #[true, true, true, true, false, false, false, false, false, false, false, false, false, false, false, false, false, false, false, false, false, false, false, false, false] rfl rfl (take_ofW HT_.out HW_.out (by kernel_rfl)) (fun _ _ _ h => h) (Or.inl ⟨by rfl, ?_⟩) hHeld ?_ ?_
        rotate_left
        · rintro w' ⟨hbl, s0, s1, s2, s3, s4, s5, s6, s7, s8, s9, s10, s11⟩
          go_simp
          with_reducible rfl
        rotate_left
        · simp only [Act.put, List.setIfInBounds_toArray, List.set_cons_zero, List.set_cons_succ, i64_w, i32_w]
          rfl
        refine pure_ (i := 4) (N := (some 66)) (v := ?_) (a' := ?_) #[true, true, true, true, true, false, false, false, false, false, false, false, false, false, false, false, false, false, false, false, false, false, false, false, false] rfl rfl (any_of HT_.out (by kernel_rfl)) (fun _ _ _ h => h) (Or.inl ⟨by rfl, ?_⟩) ?_ ?_
        rotate_left
        · intro w'
          go_simp
          with_reducible rfl
        rotate_left
        · simp only [Act.put, List.setIfInBounds_toArray, List.set_cons_zero, List.set_cons_succ, i64_w, i32_w]
          rfl
        refine pure_ (i := 5) (N := (some 67)) (v := ?_) (a' := ?_) #[true, true, true, true, true, true, false, false, false, false, false, false, false, false, false, false, false, false, false, false, false, false, false, false, false] rfl rfl (any_of HT_.out (by kernel_rfl)) (fun _ _ _ h => h) (Or.inl ⟨by rfl, ?_⟩) ?_ ?_
        rotate_left
        · intro w'
          go_simp
          with_reducible rfl
        rotate_left
        · simp only [Act.put, List.setIfInBounds_toArray, List.set_cons_zero, List.set_cons_succ, i64_w, i32_w]
          rfl
        refine pure_ (i := 6) (N := (some 68)) (v := ?_) (a' := ?_) #[true, true, true, true, true, true, true, false, false, false, false, false, false, false, false, false, false, false, false, false, false, false, false, false, false] rfl rfl (any_of HT_.out (by kernel_rfl)) (fun _ _ _ h => h) (Or.inl ⟨by rfl, ?_⟩) ?_ ?_
        rotate_left
        · intro w'
          go_simp
          with_reducible rfl
        rotate_left
        · simp only [Act.put, List.setIfInBounds_toArray, List.set_cons_zero, List.set_cons_succ, i64_w, i32_w]
          rfl
        refine take_ (i := 7) (N := (some 69)) (v := ?_) (a' := ?_) #[true, true, true, true, true, true, true, true, false, false, false, false, false, false, false, false, false, false, false, false, false, false, false, false, false] rfl rfl (take_ofW HT_.out HW_.out (by kernel_rfl)) (fun _ _ _ h => h) (Or.inl ⟨by rfl, ?_⟩) hHeld ?_ ?_
        rotate_left
        · rintro w' ⟨hbl, s0, s1, s2, s3, s4, s5, s6, s7, s8, s9, s10, s11⟩
          go_simp
          with_reducible rfl
        rotate_left
        · simp only [Act.put, List.setIfInBounds_toArray, List.set_cons_zero, List.set_cons_succ, i64_w, i32_w]
          rfl
        refine one_ (i := 8) (N := (some 70)) #[true, true, true, true, true, true, true, true, true, false, false, false, false, false, false, false, false, false, false, false, false, false, false, false, false] rfl rfl (one_of HT_.out (by kernel_rfl)) (by decide) (fun K hK => ?_)
        refine goes_ Tryd.func37 (by kernel_rfl) rfl #[.agg #[.int .i64 a.f0, .int .i64 a.f1, .slice pa.A2 a.f2.length pa.c2, .int .i64 a.f3, .slice pa.A4 a.f4.length pa.c4, .slice pa.A5 a.f5.length pa.c5], .agg #[.int .i64 b.f0, .int .i64 b.f1, .slice pb.A2 b.f2.length pb.c2, .int .i64 b.f3, .slice pb.A4 b.f4.length pb.c4, .slice pb.A5 b.f5.length pb.c5]] (by rfl) rfl rfl (by (try simp only [List.map_toArray, List.map_cons, List.map_nil]); first | done | rfl) ?_
        with_reducible refine (HSAME.out _ hHeld.1).mono ?_
        rintro e8 w8 ⟨rfl, hB8⟩
        refine ⟨_, rfl, ?_⟩
        refine hK.out _ _ (HKEEP.out w8 (keep_trans hHeld.1 hB8)) (fun hHeld => ?_)
        clear hK K
        refine norm_ (a' := ?_) ?_ ?_
        rotate_left
        · show Act.put _ (some 70) _ = _
          simp only [Act.put, List.setIfInBounds_toArray, List.set_cons_zero, List.set_cons_succ, i64_w, i32_w]
          rfl
        refine pure_ (i := 9) (N := (some 71)) (v := ?_) (a' := ?_) #[true, true, true, true, true, true, true, true, true, true, false, false, false, false, false, false, false, false, false, false, false, false, false, false, false] rfl rfl (any_of HT_.out (by kernel_rfl)) (fun _ _ _ h => h) (Or.inl ⟨by rfl, ?_⟩) ?_ ?_
        rotate_left
        · intro w'
          go_simp
          with_reducible rfl
        rotate_left
        · simp only [Act.put, List.setIfInBounds_toArray, List.set_cons_zero, List.set_cons_succ, i64_w, i32_w]
          rfl
        refine pure_ (i := 10) (N := (some 72)) (v := ?_) (a' := ?_) #[true, true, true, true, true, true, true, true, true, true, true, false, false, false, false, false, false, false, false, false, false, false, false, false, false] rfl rfl (any_of HT_.out (by kernel_rfl)) (fun _ _ _ h => h) (Or.inl ⟨by rfl, ?_⟩) ?_ ?_
        rotate_left
        · intro w'
          go_simp
          with_reducible rfl
        rotate_left
        · simp only [Act.put, List.setIfInBounds_toArray, List.set_cons_zero, List.set_cons_succ, i64_w, i32_w]
          rfl
        refine pure_ (i := 11) (N := (some 73)) (v := ?_) (a' := ?_) #[true, true, true, true, true, true, true, true, true, true, true, true, false, false, false, false, false, false, false, false, false, false, false, false, false] rfl rfl (any_of HT_.out (by kernel_rfl)) (fun _ _ _ h => h) (Or.inl ⟨by rfl, ?_⟩) ?_ ?_
        rotate_left
        · intro w'
          go_simp
          with_reducible rfl
        rotate_left
        · simp only [Act.put, List.setIfInBounds_toArray, List.set_cons_zero, List.set_cons_succ, i64_w, i32_w]
          rfl
        refine pure_ (i := 12) (N := (some 74)) (v := ?_) (a' := ?_) #[true, true, true, true, true, true, true, true, true, true, true, true, true, false, false, false, false, false, false, false, false, false, false, false, false] rfl rfl (any_of HT_.out (by kernel_rfl)) (fun _ _ _ h => h) (Or.inl ⟨by rfl, ?_⟩) ?_ ?_
        rotate_left
        · intro w'
          go_simp
          with_reducible rfl
        rotate_left
        · simp only [Act.put, List.setIfInBounds_toArray, List.set_cons_zero, List.set_cons_succ, i64_w, i32_w]
          rfl
        refine pure_ (i := 13) (N := (some 75)) (v := ?_) (a' := ?_) #[true, true, true, true, true, true, true, true, true, true, true, true, true, true, false, false, false, false, false, false, false, false, false, false, false] rfl rfl (any_of HT_.out (by kernel_rfl)) (fun _ _ _ h => h) (Or.inl ⟨by rfl, ?_⟩) ?_ ?_
        rotate_left
        · intro w'
          go_simp
          with_reducible rfl
        rotate_left
        · simp only [Act.put, List.setIfInBounds_toArray, List.set_cons_zero, List.set_cons_succ, i64_w, i32_w]
          rfl
        refine pure_ (i := 14) (N := (some 76)) (v := ?_) (a' := ?_) #[true, true, true, true, true, true, true, true, true, true, true, true, true, true, true, false, false, false, false, false, false, false, false, false, false] rfl rfl (any_of HT_.out (by kernel_rfl)) (fun _ _ _ h => h) (Or.inl ⟨by rfl, ?_⟩) ?_ ?_
        rotate_left
        · intro w'
          go_simp
          with_reducible rfl
        rotate_left
        · simp only [Act.put, List.setIfInBounds_toArray, List.set_cons_zero, List.set_cons_succ, i64_w, i32_w]
          rfl
        refine take_ (i := 15) (N := (some 77)) (v := ?_) (a' := ?_) #[true, true, true, true, true, true, true, true, true, true, true, true, true, true, true, true, false, false, false, false, false, false, false, false, false] rfl rfl (take_ofW HT_.out HW_.out (by kernel_rfl)) (fun _ _ _ h => h) (Or.inl ⟨by rfl, ?_⟩) hHeld ?_ ?_
        rotate_left
        · rintro w' ⟨hbl, s0, s1, s2, s3, s4, s5, s6, s7, s8, s9, s10, s11⟩
          go_simp
          with_reducible rfl
        rotate_left
        · simp only [Act.put, List.setIfInBounds_toArray, List.set_cons_zero, List.set_cons_succ, i64_w, i32_w]
          rfl
        refine pure_ (i := 17) (N := (some 79)) (v := ?_) (a' := ?_) #[true, true, true, true, true, true, true, true, true, true, true, true, true, true, true, true, false, true, false, false, false, false, false, false, false] rfl rfl (any_of HT_.out (by kernel_rfl)) (fun _ _ _ h => h) (Or.inl ⟨by rfl, ?_⟩) ?_ ?_
        rotate_left
        · intro w'
          go_simp
          with_reducible rfl
        rotate_left
        · simp only [Act.put, List.setIfInBounds_toArray, List.set_cons_zero, List.set_cons_succ, i64_w, i32_w]
          rfl
        refine pure_ (i := 18) (N := (some 80)) (v := ?_) (a' := ?_) #[true, true, true, true, true, true, true, true, true, true, true, true, true, true, true, true, false, true, true, false, false, false, false, false, false] rfl rfl (any_of HT_.out (by kernel_rfl)) (fun _ _ _ h => h) (Or.inl ⟨by rfl, ?_⟩) ?_ ?_
        rotate_left
        · intro w'
          go_simp
          with_reducible rfl
        rotate_left
        · simp only [Act.put, List.setIfInBounds_toArray, List.set_cons_zero, List.set_cons_succ, i64_w, i32_w]
          rfl
        refine pure_ (i := 19) (N := (some 81)) (v := ?_) (a' := ?_) #[true, true, true, true, true, true, true, true, true, true, true, true, true, true, true, true, false, true, true, true, false, false, false, false, false] rfl rfl (any_of HT_.out (by kernel_rfl)) (fun _ _ _ h => h) (Or.inl ⟨by rfl, ?_⟩) ?_ ?_
        rotate_left
        · intro w'
          go_simp
          with_reducible rfl
        rotate_left
        · simp only [Act.put, List.setIfInBounds_toArray, List.set_cons_zero, List.set_cons_succ, i64_w, i32_w]
          rfl
        refine pure_ (i := 20) (N := (some 82)) (v := ?_) (a' := ?_) #[true, true, true, true, true, true, true, true, true, true, true, true, true, true, true, true, false, true, true, true, true, false, false, false, false] rfl rfl (any_of HT_.out (by kernel_rfl)) (fun _ _ _ h => h) (Or.inl ⟨by rfl, ?_⟩) ?_ ?_
        rotate_left
        · intro w'
          go_simp
          with_reducible rfl
        rotate_left
        · simp only [Act.put, List.setIfInBounds_toArray, List.set_cons_zero, List.set_cons_succ, i64_w, i32_w]
          rfl
        refine take_ (i := 21) (N := (some 83)) (v := ?_) (a' := ?_) #[true, true, true, true, true, true, true, true, true, true, true, true, true, true, true, true, false, true, true, true, true, true, false, false, false] rfl rfl (take_ofW HT_.out HW_.out (by kernel_rfl)) (fun _ _ _ h => h) (Or.inl ⟨by rfl, ?_⟩) hHeld ?_ ?_
        rotate_left
        · rintro w' ⟨hbl, s0, s1, s2, s3, s4, s5, s6, s7, s8, s9, s10, s11⟩
          go_simp
          with_reducible rfl
        rotate_left
        · simp only [Act.put, List.setIfInBounds_toArray, List.set_cons_zero, List.set_cons_succ, i64_w, i32_w]
          rfl
        refine one_ (i := 16) (N := (some 78)) #[true, true, true, true, true, true, true, true, true, true, true, true, true, true, true, true, true, true, true, true, true, true, false, false, false] rfl rfl (one_of HT_.out (by kernel_rfl)) (by decide) (fun K hK => ?_)
        refine goes_ Tryd.func38 (by kernel_rfl) rfl #[.int .i64 size, .agg #[.int .i64 a.f0, .int .i64 a.f1, .slice pa.A2 a.f2.length pa.c2, .int .i64 a.f3, .slice pa.A4 a.f4.length pa.c4, .slice pa.A5 a.f5.length pa.c5]] (by rfl) rfl rfl (by (try simp only [List.map_toArray, List.map_cons, List.map_nil]); first | done | rfl) ?_
        with_reducible refine (HHA.out _ hHeld.1).mono ?_
        rintro e8 w8 ⟨va, rfl, hRa, hB8⟩
        obtain ⟨Aa, ca, rfl⟩ := Kd.R_slice hRa
        have HRa := Aside0.mk (Kd.R_reads' hRa)
        have HWa := Aside0.mk hB8
        clear hRa
        refine ⟨_, rfl, ?_⟩
        refine hK.out _ _ (HKEEP.out w8 (keep_trans hHeld.1 hB8)) (fun hHeld => ?_)
        clear hK K
        refine norm_ (a' := ?_) ?_ ?_
        rotate_left
        · show Act.put _ (some 78) _ = _
          simp only [Act.put, List.setIfInBounds_toArray, List.set_cons_zero, List.set_cons_succ, i64_w, i32_w]
          rfl
        refine one_ (i := 22) (N := (some 84)) #[true, true, true, true, true, true, true, true, true, true, true, true, true, true, true, true, true, true, true, true, true, true, true, false, false] rfl rfl (one_of HT_.out (by kernel_rfl)) (by decide) (fun K hK => ?_)
        refine goes_ Tryd.func38 (by kernel_rfl) rfl #[.int .i64 size, .agg #[.int .i64 b.f0, .int .i64 b.f1, .slice pb.A2 b.f2.length pb.c2, .int .i64 b.f3, .slice pb.A4 b.f4.length pb.c4, .slice pb.A5 b.f5.length pb.c5]] (by rfl) rfl rfl (by (try simp only [List.map_toArray, List.map_cons, List.map_nil]); first | done | rfl) ?_
        with_reducible refine (HHB.out _ hHeld.1).mono ?_
        rintro e8 w8 ⟨vb, rfl, hRb, hB8⟩
        obtain ⟨Ab, cb, rfl⟩ := Kd.R_slice hRb
        have HRb := Aside0.mk (Kd.R_reads' hRb)
        have HCa := Aside0.mk (Kd.C_below HRa.out.2.2 hB8)
        clear hRb
        refine ⟨_, rfl, ?_⟩
        refine hK.out _ _ (HKEEP.out w8 (keep_trans hHeld.1 hB8)) (fun hHeld => ?_)
        clear hK K
        refine norm_ (a' := ?_) ?_ ?_
        rotate_left
        · show Act.put _ (some 84) _ = _
          simp only [Act.put, List.setIfInBounds_toArray, List.set_cons_zero, List.set_cons_succ, i64_w, i32_w]
          rfl
        refine one_ (i := 23) (N := (some 85)) #[true, true, true, true, true, true, true, true, true, true, true, true, true, true, true, true, true, true, true, true, true, true, true, true, false] rfl rfl (one_of HT_.out (by kernel_rfl)) (by decide) (fun K hK => ?_)
        refine goes_ Tryd.func29 (by kernel_rfl) rfl #[.slice Aa (hashR size a).length ca, .slice Ab (hashR size b).length cb] (by rfl) rfl rfl (by (try simp only [List.map_toArray, List.map_cons, List.map_nil]); first | done | rfl) ?_
        with_reducible refine (equal_calls (hashR_ok size a) (hashR_ok size b) HCa.out HRa.out.2.1 HRb.out.2.2 HRb.out.2.1).mono ?_
        rintro e8 w8 ⟨rfl, ⟨mm, rfl⟩⟩
        refine ⟨_, rfl, ?_⟩
        refine hK.out _ _ (HKEEP.out _ (keep_trans hHeld.1 (pw_below_drewN (Below.refl _ _) mm))) (fun hHeld => ?_)
        clear hK K
        refine norm_ (a' := ?_) ?_ ?_
        rotate_left
        · show Act.put _ (some 85) _ = _
          simp only [Act.put, List.setIfInBounds_toArray, List.set_cons_zero, List.set_cons_succ, i64_w, i32_w]
          rfl
        refine pure_ (i := 24) (N := (some 86)) (v := ?_) (a' := ?_) #[true, true, true, true, true, true, true, true, true, true, true, true, true, true, true, true, true, true, true, true, true, true, true, true, true] rfl rfl (any_of HT_.out (by kernel_rfl)) (fun _ _ _ h => h) (Or.inl ⟨by rfl, ?_⟩) ?_ ?_
        rotate_left
        · intro w'
          go_simp
          with_reducible rfl
        rotate_left
        · simp only [Act.put, List.setIfInBounds_toArray, List.set_cons_zero, List.set_cons_succ, i64_w, i32_w]
          rfl
        refine done_ (done_of HT_.out (by kernel_rfl)) ?_
        have HBF := Aside0.mk (HB.out.trans (hHeld.1.mono HB.out.size))
        clear hHeld
        go_wp2_with fail
        refine (annalslaw14_awake.calls 1100000 true _ (GlobT.of HGT.out HBF.out) (awake_f 1100000 (by decide))).mono ?_
        rintro e w7 ⟨rfl, hB7⟩
        have HB7 := Aside0.mk (HBF.out.trans (hB7.mono HBF.out.size))
        clear hB7
        go_wp2_with fail
        go_ret
        exact ⟨rfl, HB7.out⟩
      · have HN2 := Aside0.mk (HNEXT.out (.inr hh))
        have hdq := decide_eq_false hh
        clear hsm hh
        refine start_ (n := 25) (S := fun w' => Below wr.heap.size wr w' ∧ w'.cell? (ada.add (k * 6)) = some (.int .i64 a.f0) ∧ w'.cell? ⟨(ada.add (k * 6)).block, (ada.add (k * 6)).off + 1, none⟩ = some (.int .i64 a.f1) ∧ w'.cell? ⟨(ada.add (k * 6)).block, (ada.add (k * 6)).off + 2, none⟩ = some (.slice pa.A2 a.f2.length pa.c2) ∧ w'.cell? ⟨(ada.add (k * 6)).block, (ada.add (k * 6)).off + 3, none⟩ = some (.int .i64 a.f3) ∧ w'.cell? ⟨(ada.add (k * 6)).block, (ada.add (k * 6)).off + 4, none⟩ = some (.slice pa.A4 a.f4.length pa.c4) ∧ w'.cell? ⟨(ada.add (k * 6)).block, (ada.add (k * 6)).off + 5, none⟩ = some (.slice pa.A5 a.f5.length pa.c5) ∧ w'.cell? (adb.add (k * 6)) = some (.int .i64 b.f0) ∧ w'.cell? ⟨(adb.add (k * 6)).block, (adb.add (k * 6)).off + 1, none⟩ = some (.int .i64 b.f1) ∧ w'.cell? ⟨(adb.add (k * 6)).block, (adb.add (k * 6)).off + 2, none⟩ = some (.slice pb.A2 b.f2.length pb.c2) ∧ w'.cell? ⟨(adb.add (k * 6)).block, (adb.add (k * 6)).off + 3, none⟩ = some (.int .i64 b.f3) ∧ w'.cell? ⟨(adb.add (k * 6)).block, (adb.add (k * 6)).off + 4, none⟩ = some (.slice pb.A4 b.f4.length pb.c4) ∧ w'.cell? ⟨(adb.add (k * 6)).block, (adb.add (k * 6)).off + 5, none⟩ = some (.slice pb.A5 b.f5.length pb.c5)) (ds := []) #[false, false, false, false, false, false, false, false, false, false, false, false, false, false, false, false, false, false, false, false, false, false, false, false, false] (by kernel_rfl) rfl rfl (HKEEP.out wr.drew (below_drew (Below.refl _ _))) (fun hHeld => ?_); refine with_tabW skipOne_tab9 skipOne_bits9 (fun HT_ HW_ => ?_)
        generalize hgw : wr.drew = w18 at hHeld ⊢
        clear hgw
        refine pure_ (i := 0) (N := (some 62)) (v := ?_) (a' := ?_) #[true, false, false, false, false, false, false, false, false, false, false, false, false, false, false, false, false, false, false, false, false, false, false, false, false] rfl rfl (any_of HT_.out (by kernel_rfl)) (fun _ _ _ h => h) (Or.inl ⟨by rfl, ?_⟩) ?_ ?_
        rotate_left
        · intro w'
          go_simp
          with_reducible rfl
        rotate_left
        · simp only [Act.put, List.setIfInBounds_toArray, List.set_cons_zero, List.set_cons_succ, i64_w, i32_w]
          rfl
        refine pure_ (i := 1) (N := (some 63)) (v := ?_) (a' := ?_) #[true, true, false, false, false, false, false, false, false, false, false, false, false, false, false, false, false, false, false, false, false, false, false, false, false] rfl rfl (any_of HT_.out (by kernel_rfl)) (fun _ _ _ h => h) (Or.inl ⟨by rfl, ?_⟩) ?_ ?_
        rotate_left
        · intro w'
          go_simp
          with_reducible rfl
        rotate_left
        · simp only [Act.put, List.setIfInBounds_toArray, List.set_cons_zero, List.set_cons_succ, i64_w, i32_w]
          rfl
        refine pure_ (i := 2) (N := (some 64)) (v := ?_) (a' := ?_) #[true, true, true, false, false, false, false, false, false, false, false, false, false, false, false, false, false, false, false, false, false, false, false, false, false] rfl rfl (any_of HT_.out (by kernel_rfl)) (fun _ _ _ h => h) (Or.inl ⟨by rfl, ?_⟩) ?_ ?_
        rotate_left
        · intro w'
          go_simp
          with_reducible rfl
        rotate_left
        · simp only [Act.put, List.setIfInBounds_toArray, List.set_cons_zero, List.set_cons_succ, i64_w, i32_w]
          rfl
        refine take_ (i := 3) (N := (some 65)) (v := ?_) (a' := ?_) #[true, true, true, true, false, false, false, false, false, false, false, false, false, false, false, false, false, false, false, false, false, false, false, false, false] rfl rfl (take_ofW HT_.out HW_.out (by kernel_rfl)) (fun _ _ _ h => h) (Or.inl ⟨by rfl, ?_⟩) hHeld ?_ ?_
        rotate_left
        · rintro w' ⟨hbl, s0, s1, s2, s3, s4, s5, s6, s7, s8, s9, s10, s11⟩
          go_simp
          with_reducible rfl
        rotate_left
        · simp only [Act.put, List.setIfInBounds_toArray, List.set_cons_zero, List.set_cons_succ, i64_w, i32_w]
          rfl
        refine pure_ (i := 4) (N := (some 66)) (v := ?_) (a' := ?_) #[true, true, true, true, true, false, false, false, false, false, false, false, false, false, false, false, false, false, false, false, false, false, false, false, false] rfl rfl (any_of HT_.out (by kernel_rfl)) (fun _ _ _ h => h) (Or.inl ⟨by rfl, ?_⟩) ?_ ?_
        rotate_left
        · intro w'
          go_simp
          with_reducible rfl
        rotate_left
        · simp only [Act.put, List.setIfInBounds_toArray, List.set_cons_zero, List.set_cons_succ, i64_w, i32_w]
          rfl
        refine pure_ (i := 5) (N := (some 67)) (v := ?_) (a' := ?_) #[true, true, true, true, true, true, false, false, false, false, false, false, false, false, false, false, false, false, false, false, false, false, false, false, false] rfl rfl (any_of HT_.out (by kernel_rfl)) (fun _ _ _ h => h) (Or.inl ⟨by rfl, ?_⟩) ?_ ?_
        rotate_left
        · intro w'
          go_simp
          with_reducible rfl
        rotate_left
        · simp only [Act.put, List.setIfInBounds_toArray, List.set_cons_zero, List.set_cons_succ, i64_w, i32_w]
          rfl
        refine pure_ (i := 6) (N := (some 68)) (v := ?_) (a' := ?_) #[true, true, true, true, true, true, true, false, false, false, false, false, false, false, false, false, false, false, false, false, false, false, false, false, false] rfl rfl (any_of HT_.out (by kernel_rfl)) (fun _ _ _ h => h) (Or.inl ⟨by rfl, ?_⟩) ?_ ?_
        rotate_left
        · intro w'
          go_simp
          with_reducible rfl
        rotate_left
        · simp only [Act.put, List.setIfInBounds_toArray, List.set_cons_zero, List.set_cons_succ, i64_w, i32_w]
          rfl
        refine take_ (i := 7) (N := (some 69)) (v := ?_) (a' := ?_) #[true, true, true, true, true, true, true, true, false, false, false, false, false, false, false, false, false, false, false, false, false, false, false, false, false] rfl rfl (take_ofW HT_.out HW_.out (by kernel_rfl)) (fun _ _ _ h => h) (Or.inl ⟨by rfl, ?_⟩) hHeld ?_ ?_
        rotate_left
        · rintro w' ⟨hbl, s0, s1, s2, s3, s4, s5, s6, s7, s8, s9, s10, s11⟩
          go_simp
          with_reducible rfl
        rotate_left
        · simp only [Act.put, List.setIfInBounds_toArray, List.set_cons_zero, List.set_cons_succ, i64_w, i32_w]
          rfl
        refine one_ (i := 8) (N := (some 70)) #[true, true, true, true, true, true, true, true, true, false, false, false, false, false, false, false, false, false, false, false, false, false, false, false, false] rfl rfl (one_of HT_.out (by kernel_rfl)) (by decide) (fun K hK => ?_)
        refine goes_ Tryd.func37 (by kernel_rfl) rfl #[.agg #[.int .i64 a.f0, .int .i64 a.f1, .slice pa.A2 a.f2.length pa.c2, .int .i64 a.f3, .slice pa.A4 a.f4.length pa.c4, .slice pa.A5 a.f5.length pa.c5], .agg #[.int .i64 b.f0, .int .i64 b.f1, .slice pb.A2 b.f2.length pb.c2, .int .i64 b.f3, .slice pb.A4 b.f4.length pb.c4, .slice pb.A5 b.f5.length pb.c5]] (by rfl) rfl rfl (by (try simp only [List.map_toArray, List.map_cons, List.map_nil]); first | done | rfl) ?_
        with_reducible refine (HSAME.out _ hHeld.1).mono ?_
        rintro e8 w8 ⟨rfl, hB8⟩
        refine ⟨_, rfl, ?_⟩
        refine hK.out _ _ (HKEEP.out w8 (keep_trans hHeld.1 hB8)) (fun hHeld => ?_)
        clear hK K
        refine norm_ (a' := ?_) ?_ ?_
        rotate_left
        · show Act.put _ (some 70) _ = _
          simp only [Act.put, List.setIfInBounds_toArray, List.set_cons_zero, List.set_cons_succ, i64_w, i32_w]
          rfl
        refine pure_ (i := 9) (N := (some 71)) (v := ?_) (a' := ?_) #[true, true, true, true, true, true, true, true, true, true, false, false, false, false, false, false, false, false, false, false, false, false, false, false, false] rfl rfl (any_of HT_.out (by kernel_rfl)) (fun _ _ _ h => h) (Or.inl ⟨by rfl, ?_⟩) ?_ ?_
        rotate_left
        · intro w'
          go_simp
          with_reducible rfl
        rotate_left
        · simp only [Act.put, List.setIfInBounds_toArray, List.set_cons_zero, List.set_cons_succ, i64_w, i32_w]
          rfl
        refine pure_ (i := 10) (N := (some 72)) (v := ?_) (a' := ?_) #[true, true, true, true, true, true, true, true, true, true, true, false, false, false, false, false, false, false, false, false, false, false, false, false, false] rfl rfl (any_of HT_.out (by kernel_rfl)) (fun _ _ _ h => h) (Or.inl ⟨by rfl, ?_⟩) ?_ ?_
        rotate_left
        · intro w'
          go_simp
          with_reducible rfl
        rotate_left
        · simp only [Act.put, List.setIfInBounds_toArray, List.set_cons_zero, List.set_cons_succ, i64_w, i32_w]
          rfl
        refine pure_ (i := 11) (N := (some 73)) (v := ?_) (a' := ?_) #[true, true, true, true, true, true, true, true, true, true, true, true, false, false, false, false, false, false, false, false, false, false, false, false, false] rfl rfl (any_of HT_.out (by kernel_rfl)) (fun _ _ _ h => h) (Or.inl ⟨by rfl, ?_⟩) ?_ ?_
        rotate_left
        · intro w'
          go_simp
          with_reducible rfl
        rotate_left
        · simp only [Act.put, List.setIfInBounds_toArray, List.set_cons_zero, List.set_cons_succ, i64_w, i32_w]
          rfl
        refine pure_ (i := 12) (N := (some 74)) (v := ?_) (a' := ?_) #[true, true, true, true, true, true, true, true, true, true, true, true, true, false, false, false, false, false, false, false, false, false, false, false, false] rfl rfl (any_of HT_.out (by kernel_rfl)) (fun _ _ _ h => h) (Or.inl ⟨by rfl, ?_⟩) ?_ ?_
        rotate_left
        · intro w'
          go_simp
          with_reducible rfl
        rotate_left
        · simp only [Act.put, List.setIfInBounds_toArray, List.set_cons_zero, List.set_cons_succ, i64_w, i32_w]
          rfl
        refine pure_ (i := 13) (N := (some 75)) (v := ?_) (a' := ?_) #[true, true, true, true, true, true, true, true, true, true, true, true, true, true, false, false, false, false, false, false, false, false, false, false, false] rfl rfl (any_of HT_.out (by kernel_rfl)) (fun _ _ _ h => h) (Or.inl ⟨by rfl, ?_⟩) ?_ ?_
        rotate_left
        · intro w'
          go_simp
          with_reducible rfl
        rotate_left
        · simp only [Act.put, List.setIfInBounds_toArray, List.set_cons_zero, List.set_cons_succ, i64_w, i32_w]
          rfl
        refine pure_ (i := 14) (N := (some 76)) (v := ?_) (a' := ?_) #[true, true, true, true, true, true, true, true, true, true, true, true, true, true, true, false, false, false, false, false, false, false, false, false, false] rfl rfl (any_of HT_.out (by kernel_rfl)) (fun _ _ _ h => h) (Or.inl ⟨by rfl, ?_⟩) ?_ ?_
        rotate_left
        · intro w'
          go_simp
          with_reducible rfl
        rotate_left
        · simp only [Act.put, List.setIfInBounds_toArray, List.set_cons_zero, List.set_cons_succ, i64_w, i32_w]
          rfl
        refine take_ (i := 15) (N := (some 77)) (v := ?_) (a' := ?_) #[true, true, true, true, true, true, true, true, true, true, true, true, true, true, true, true, false, false, false, false, false, false, false, false, false] rfl rfl (take_ofW HT_.out HW_.out (by kernel_rfl)) (fun _ _ _ h => h) (Or.inl ⟨by rfl, ?_⟩) hHeld ?_ ?_
        rotate_left
        · rintro w' ⟨hbl, s0, s1, s2, s3, s4, s5, s6, s7, s8, s9, s10, s11⟩
          go_simp
          with_reducible rfl
        rotate_left
        · simp only [Act.put, List.setIfInBounds_toArray, List.set_cons_zero, List.set_cons_succ, i64_w, i32_w]
          rfl
        refine pure_ (i := 17) (N := (some 79)) (v := ?_) (a' := ?_) #[true, true, true, true, true, true, true, true, true, true, true, true, true, true, true, true, false, true, false, false, false, false, false, false, false] rfl rfl (any_of HT_.out (by kernel_rfl)) (fun _ _ _ h => h) (Or.inl ⟨by rfl, ?_⟩) ?_ ?_
        rotate_left
        · intro w'
          go_simp
          with_reducible rfl
        rotate_left
        · simp only [Act.put, List.setIfInBounds_toArray, List.set_cons_zero, List.set_cons_succ, i64_w, i32_w]
          rfl
        refine pure_ (i := 18) (N := (some 80)) (v := ?_) (a' := ?_) #[true, true, true, true, true, true, true, true, true, true, true, true, true, true, true, true, false, true, true, false, false, false, false, false, false] rfl rfl (any_of HT_.out (by kernel_rfl)) (fun _ _ _ h => h) (Or.inl ⟨by rfl, ?_⟩) ?_ ?_
        rotate_left
        · intro w'
          go_simp
          with_reducible rfl
        rotate_left
        · simp only [Act.put, List.setIfInBounds_toArray, List.set_cons_zero, List.set_cons_succ, i64_w, i32_w]
          rfl
        refine pure_ (i := 19) (N := (some 81)) (v := ?_) (a' := ?_) #[true, true, true, true, true, true, true, true, true, true, true, true, true, true, true, true, false, true, true, true, false, false, false, false, false] rfl rfl (any_of HT_.out (by kernel_rfl)) (fun _ _ _ h => h) (Or.inl ⟨by rfl, ?_⟩) ?_ ?_
        rotate_left
        · intro w'
          go_simp
          with_reducible rfl
        rotate_left
        · simp only [Act.put, List.setIfInBounds_toArray, List.set_cons_zero, List.set_cons_succ, i64_w, i32_w]
          rfl
        refine pure_ (i := 20) (N := (some 82)) (v := ?_) (a' := ?_) #[true, true, true, true, true, true, true, true, true, true, true, true, true, true, true, true, false, true, true, true, true, false, false, false, false] rfl rfl (any_of HT_.out (by kernel_rfl)) (fun _ _ _ h => h) (Or.inl ⟨by rfl, ?_⟩) ?_ ?_
        rotate_left
        · intro w'
          go_simp
          with_reducible rfl
        rotate_left
        · simp only [Act.put, List.setIfInBounds_toArray, List.set_cons_zero, List.set_cons_succ, i64_w, i32_w]
          rfl
        refine take_ (i := 21) (N := (some 83)) (v := ?_) (a' := ?_) #[true, true, true, true, true, true, true, true, true, true, true, true, true, true, true, true, false, true, true, true, true, true, false, false, false] rfl rfl (take_ofW HT_.out HW_.out (by kernel_rfl)) (fun _ _ _ h => h) (Or.inl ⟨by rfl, ?_⟩) hHeld ?_ ?_
        rotate_left
        · rintro w' ⟨hbl, s0, s1, s2, s3, s4, s5, s6, s7, s8, s9, s10, s11⟩
          go_simp
          with_reducible rfl
        rotate_left
        · simp only [Act.put, List.setIfInBounds_toArray, List.set_cons_zero, List.set_cons_succ, i64_w, i32_w]
          rfl
        refine one_ (i := 16) (N := (some 78)) #[true, true, true, true, true, true, true, true, true, true, true, true, true, true, true, true, true, true, true, true, true, true, false, false, false] rfl rfl (one_of HT_.out (by kernel_rfl)) (by decide) (fun K hK => ?_)
        refine goes_ Tryd.func38 (by kernel_rfl) rfl #[.int .i64 size, .agg #[.int .i64 a.f0, .int .i64 a.f1, .slice pa.A2 a.f2.length pa.c2, .int .i64 a.f3, .slice pa.A4 a.f4.length pa.c4, .slice pa.A5 a.f5.length pa.c5]] (by rfl) rfl rfl (by (try simp only [List.map_toArray, List.map_cons, List.map_nil]); first | done | rfl) ?_
        with_reducible refine (HHA.out _ hHeld.1).mono ?_
        rintro e8 w8 ⟨va, rfl, hRa, hB8⟩
        obtain ⟨Aa, ca, rfl⟩ := Kd.R_slice hRa
        have HRa := Aside0.mk (Kd.R_reads' hRa)
        have HWa := Aside0.mk hB8
        clear hRa
        refine ⟨_, rfl, ?_⟩
        refine hK.out _ _ (HKEEP.out w8 (keep_trans hHeld.1 hB8)) (fun hHeld => ?_)
        clear hK K
        refine norm_ (a' := ?_) ?_ ?_
        rotate_left
        · show Act.put _ (some 78) _ = _
          simp only [Act.put, List.setIfInBounds_toArray, List.set_cons_zero, List.set_cons_succ, i64_w, i32_w]
          rfl
        refine one_ (i := 22) (N := (some 84)) #[true, true, true, true, true, true, true, true, true, true, true, true, true, true, true, true, true, true, true, true, true, true, true, false, false] rfl rfl (one_of HT_.out (by kernel_rfl)) (by decide) (fun K hK => ?_)
        refine goes_ Tryd.func38 (by kernel_rfl) rfl #[.int .i64 size, .agg #[.int .i64 b.f0, .int .i64 b.f1, .slice pb.A2 b.f2.length pb.c2, .int .i64 b.f3, .slice pb.A4 b.f4.length pb.c4, .slice pb.A5 b.f5.length pb.c5]] (by rfl) rfl rfl (by (try simp only [List.map_toArray, List.map_cons, List.map_nil]); first | done | rfl) ?_
        with_reducible refine (HHB.out _ hHeld.1).mono ?_
        rintro e8 w8 ⟨vb, rfl, hRb, hB8⟩
        obtain ⟨Ab, cb, rfl⟩ := Kd.R_slice hRb
        have HRb := Aside0.mk (Kd.R_reads' hRb)
        have HCa := Aside0.mk (Kd.C_below HRa.out.2.2 hB8)
        clear hRb
        refine ⟨_, rfl, ?_⟩
        refine hK.out _ _ (HKEEP.out w8 (keep_trans hHeld.1 hB8)) (fun hHeld => ?_)
        clear hK K
        refine norm_ (a' := ?_) ?_ ?_
        rotate_left
        · show Act.put _ (some 84) _ = _
          simp only [Act.put, List.setIfInBounds_toArray, List.set_cons_zero, List.set_cons_succ, i64_w, i32_w]
          rfl
        refine one_ (i := 23) (N := (some 85)) #[true, true, true, true, true, true, true, true, true, true, true, true, true, true, true, true, true, true, true, true, true, true, true, true, false] rfl rfl (one_of HT_.out (by kernel_rfl)) (by decide) (fun K hK => ?_)
        refine goes_ Tryd.func29 (by kernel_rfl) rfl #[.slice Aa (hashR size a).length ca, .slice Ab (hashR size b).length cb] (by rfl) rfl rfl (by (try simp only [List.map_toArray, List.map_cons, List.map_nil]); first | done | rfl) ?_
        with_reducible refine (equal_calls (hashR_ok size a) (hashR_ok size b) HCa.out HRa.out.2.1 HRb.out.2.2 HRb.out.2.1).mono ?_
        rintro e8 w8 ⟨rfl, ⟨mm, rfl⟩⟩
        refine ⟨_, rfl, ?_⟩
        refine hK.out _ _ (HKEEP.out _ (keep_trans hHeld.1 (pw_below_drewN (Below.refl _ _) mm))) (fun hHeld => ?_)
        clear hK K
        refine norm_ (a' := ?_) ?_ ?_
        rotate_left
        · show Act.put _ (some 85) _ = _
          simp only [Act.put, List.setIfInBounds_toArray, List.set_cons_zero, List.set_cons_succ, i64_w, i32_w]
          rfl
        refine pure_ (i := 24) (N := (some 86)) (v := ?_) (a' := ?_) #[true, true, true, true, true, true, true, true, true, true, true, true, true, true, true, true, true, true, true, true, true, true, true, true, true] rfl rfl (any_of HT_.out (by kernel_rfl)) (fun _ _ _ h => h) (Or.inl ⟨by rfl, ?_⟩) ?_ ?_
        rotate_left
        · intro w'
          go_simp
          with_reducible rfl
        rotate_left
        · simp only [Act.put, List.setIfInBounds_toArray, List.set_cons_zero, List.set_cons_succ, i64_w, i32_w]
          rfl
        refine done_ (done_of HT_.out (by kernel_rfl)) ?_
        have HBF := Aside0.mk (HB.out.trans (hHeld.1.mono HB.out.size))
        clear hHeld
        have hlt := HLT.out
        go_wp2_with fail
        go_roundw
        case measure => simp only [intOf]; omega
        case rel => exact ⟨k + 1, by omega, by go_num, HN2, HBF⟩
end Go.Proofs.YtbedgjjiinhpkaaDoor.P
end
