/- Lemmas of this claim, part 20. -/
import Derived.Test.YtdeneoknjeegbaaDoorPartArenaLives19
import Derived.Test.YtdeneoknjeegbaaDoorPartArenaLives2
import Derived.ChangeArms
import Derived.SizedLaws
import Derived.Test.YtdeneoknjeegbaaDoorPartArenaLives8
import Derived.WideShapes
import Derived.ChangeSlices
section
set_option linter.unusedVariables false
set_option linter.unusedSimpArgs false
namespace Go.Proofs.YtdeneoknjeegbaaDoor.P
open Go.RowKit Go.Proofs.YtdeneoknjeegbaaDoor.Pure Go.Proofs.YtdeneoknjeegbaaDoorW.PrintWords Go.Proofs.YtdeneoknjeegbaaDoorW.PrintLast Go.Proofs.YtdeneoknjeegbaaDoorW.PrintMore
structure DoS where
  a : Int
  b : Int
  c : Int
  d : Int
  x : List Int
  y : List Int
  r : List Int
def zDo : DoS := ⟨0, 0, 0, 0, [], [], []⟩
def kDo : Kd DoS := Kd.iso (Kd.pair (Kd.int .i64) (Kd.pair (Kd.int .i64) (Kd.pair (Kd.int .i64) (Kd.pair (Kd.int .i64) (Kd.pair (Kd.slice 5 (Kd.int .u8)) (Kd.pair (Kd.slice 5 (Kd.int .u8)) (Kd.slice 3 (Kd.int .i64)))))))) (fun x : DoS => (x.a, x.b, x.c, x.d, x.x, x.y, x.r))
theorem kDo_open {w : World} {x : DoS} {cs : List Value} (h : kDo.K w x cs) : ∃ A4 c4 A5 c5 A6 c6, cs = [.int .i64 x.a, .int .i64 x.b, .int .i64 x.c, .int .i64 x.d, .slice A4 x.x.length c4, .slice A5 x.y.length c5, .slice A6 x.r.length c6] ∧ x.x.length ≤ c4 ∧ (Kd.int .u8).C w A4 x.x.length x.x ∧ x.y.length ≤ c5 ∧ (Kd.int .u8).C w A5 x.y.length x.y ∧ x.r.length ≤ c6 ∧ (Kd.int .i64).C w A6 x.r.length x.r := by
  obtain ⟨_, _, rfl, rfl, ⟨_, _, rfl, rfl, ⟨_, _, rfl, rfl, ⟨_, _, rfl, rfl, ⟨_, _, rfl, ⟨A4, c4, rfl, l4, g4⟩, ⟨_, _, rfl, ⟨A5, c5, rfl, l5, g5⟩, ⟨A6, c6, rfl, l6, g6⟩⟩⟩⟩⟩⟩⟩ := h
  exact ⟨A4, c4, A5, c5, A6, c6, rfl, l4, g4, l5, g5, l6, g6⟩
def rdDo (xs : List DoS) (i : Int) : DoS := xs.getD i.toNat zDo
theorem at_Do {w : World} {A : Option Addr} {n : Nat} {xs : List DoS} (h : Kd.C kDo w A n xs) (i : Int) (h0 : 0 ≤ i) (h1 : i < n) : ∃ ad A4 c4 A5 c5 A6 c6, A = some ad ∧ w.cell? (ad.add (i.toNat * 7)) = some (.int .i64 (rdDo xs i).a) ∧ w.cell? ⟨(ad.add (i.toNat * 7)).block, (ad.add (i.toNat * 7)).off + 1, none⟩ = some (.int .i64 (rdDo xs i).b) ∧ w.cell? ⟨(ad.add (i.toNat * 7)).block, (ad.add (i.toNat * 7)).off + 2, none⟩ = some (.int .i64 (rdDo xs i).c) ∧ w.cell? ⟨(ad.add (i.toNat * 7)).block, (ad.add (i.toNat * 7)).off + 3, none⟩ = some (.int .i64 (rdDo xs i).d) ∧ w.cell? ⟨(ad.add (i.toNat * 7)).block, (ad.add (i.toNat * 7)).off + 4, none⟩ = some (.slice A4 (rdDo xs i).x.length c4) ∧ w.cell? ⟨(ad.add (i.toNat * 7)).block, (ad.add (i.toNat * 7)).off + 5, none⟩ = some (.slice A5 (rdDo xs i).y.length c5) ∧ w.cell? ⟨(ad.add (i.toNat * 7)).block, (ad.add (i.toNat * 7)).off + 6, none⟩ = some (.slice A6 (rdDo xs i).r.length c6) ∧ (rdDo xs i).x.length ≤ c4 ∧ (Kd.int .u8).C w A4 (rdDo xs i).x.length (rdDo xs i).x ∧ (rdDo xs i).y.length ≤ c5 ∧ (Kd.int .u8).C w A5 (rdDo xs i).y.length (rdDo xs i).y ∧ (rdDo xs i).r.length ≤ c6 ∧ (Kd.int .i64).C w A6 (rdDo xs i).r.length (rdDo xs i).r := by
  obtain ⟨ad, c, e, _, hK, hc0⟩ := Kd.C_get h zDo i h0 h1
  have hc : ∀ j u, c[j]? = some u → w.cell? (ad.add (i.toNat * 7 + j)) = some u := hc0
  obtain ⟨A4, c4, A5, c5, A6, c6, rfl, l4, g4, l5, g5, l6, g6⟩ := kDo_open hK
  exact ⟨ad, A4, c4, A5, c5, A6, c6, e, hc 0 _ rfl, by rw [← add_field _ _ 1 (by omega)]; exact hc 1 _ rfl, by rw [← add_field _ _ 2 (by omega)]; exact hc 2 _ rfl, by rw [← add_field _ _ 3 (by omega)]; exact hc 3 _ rfl, by rw [← add_field _ _ 4 (by omega)]; exact hc 4 _ rfl, by rw [← add_field _ _ 5 (by omega)]; exact hc 5 _ rfl, by rw [← add_field _ _ 6 (by omega)]; exact hc 6 _ rfl, l4, g4, l5, g5, l6, g6⟩
theorem V_of_C {k : IntKind} (e : Nat) {w : World} {A : Option Addr} {c : Nat} {l : List Int} (h : Kd.C (Kd.int k) w A l.length l) (hc : l.length ≤ c) : Kd.V (Kd.int k) e w 0 (fun b => b < w.heap.size) (.slice A l.length c) l := Kd.V_mk hc (fun W' hW => by
  have hsz : w.heap.size ≤ W'.heap.size := by
    rcases Nat.eq_zero_or_pos w.heap.size with h0 | h0
    · omega
    · have := heap_lt (hW (w.heap.size - 1) (by omega) (by omega)) (by omega)
      omega
  have hb : Below w.heap.size w { W' with os := w.os, tape := w.tape, output := w.output } := ⟨rfl, rfl, rfl, hsz, fun k hk => hW k hk hk⟩
  have hx := Kd.C_below h hb
  exact hx)
theorem sub_step {k n : Nat} (h : k < n) : n - (k + 1) < n - k := by omega
theorem step_meas {k n : Nat} (h : k < n) (hw : wrap64 ((k : Int) + 1) = ((k + 1 : Nat) : Int)) : n - (intOf (.int .i64 (wrap64 ((k : Int) + 1)))).toNat < n - (intOf (.int .i64 (k : Int))).toNat := by
  rw [hw]
  simp only [intOf, Int.toNat_natCast]
  exact sub_step h
def DoOk (d : DoS) : Prop := BytesOk d.x ∧ BytesOk d.y ∧ d.d ≤ 9223372036854775807
theorem rdDo_mem {xs : List DoS} {i : Int} (h1 : i.toNat < xs.length) : rdDo xs i ∈ xs := by
  unfold rdDo
  rw [List.getD_eq_getElem?_getD, List.getElem?_eq_getElem h1]
  exact List.getElem_mem h1
set_option maxHeartbeats 8000000 in
set_option maxRecDepth 100000 in
theorem arenaLives_true (size room : Int) (Al : Option Addr) (cl : Nat) (l : List DoS) (w : World) (hl : Kd.C kDo w Al l.length l) (hcl : l.length ≤ cl) (ho : ∀ d ∈ l, DoOk d) (hGS : GlobS w) :
    Calls Tryd.prog 3 #[.int .i64 size, .int .i64 room, .slice Al l.length cl] w fun e w' => e = .returned (.bool true) ∧ Below w.heap.size w w' := by
  have HL := Aside0.mk hl
  have HCL := Aside0.mk hcl
  have HO := Aside0.mk ho
  have HGS := Aside0.mk hGS
  have HLM := Aside0.mk (show l.length ≤ 9223372036854775807 from hl.2.1)
  clear hl hcl ho hGS
  by_cases hb : newBad size room
  · go_enter Tryd.func3, Tryd.ntmps3
    go_wp2_with fail
    refine (new_bad size room w hb).mono ?_
    rintro e w' ⟨rfl, rfl⟩
    go_wp2_with fail
    refine (rnew_bad size room w hb).mono ?_
    rintro e w' ⟨rfl, rfl⟩
    go_wp2_with fail
    refine (annalslaw09_awake.calls true _ HGS.out rfl).mono ?_
    rintro e w7 ⟨rfl, hB7⟩
    have HB7 := Aside0.mk hB7
    clear hB7
    go_wp2_with fail
    go_ret
    exact ⟨rfl, HB7.out⟩
  have HNB := Aside0.mk hb
  have hn1 : 1 ≤ size := by by_cases h : size < 1; exact absurd (.inl h) hb; omega
  have hn2 : size ≤ 32 := by by_cases h : 32 < size; exact absurd (.inr (.inl h)) hb; omega
  have hn3 : 1 ≤ room := by by_cases h : room < 1; exact absurd (.inr (.inr (.inl h))) hb; omega
  have hn4 : room ≤ 4194304 := by by_cases h : 4194304 < room; exact absurd (.inr (.inr (.inr h))) hb; omega
  have HN := Aside0.mk (And.intro hn1 (And.intro hn2 (And.intro hn3 hn4)))
  clear hb hn1 hn2 hn3 hn4
  go_enter Tryd.func3, Tryd.ntmps3
  go_wp2_with fail
  refine (new_calls size room w HN.out.1 HN.out.2.1 HN.out.2.2.1 HN.out.2.2.2).mono ?_
  rintro e w1 ⟨rfl, hA, hb1⟩
  have HA := Aside0.mk hA
  have HB1 := Aside0.mk hb1
  clear hA hb1
  go_wp2_with fail
  refine (rnew_calls size room w1 HNB.out).mono ?_
  rintro e w2 ⟨rfl, hQ, hb2⟩
  have HP := Aside0.mk (Pr.start HNB.out HA.out HB1.out hQ hb2)
  have HW2 := Aside0.mk (show Below w.heap.size w w2 from HB1.out.trans (hb2.mono HB1.out.size))
  clear hQ hb2 HA HB1
  obtain ⟨p, hp⟩ : ∃ p, p = w.heap.size := ⟨_, rfl⟩
  obtain ⟨q, hq⟩ : ∃ q, q = w1.heap.size := ⟨_, rfl⟩
  obtain ⟨base, hbase⟩ : ∃ b, b = w.heap.size := ⟨_, rfl⟩
  replace HP := Aside0.mk (show Pr w2 base p q size room (.slice none 0 0) (.slice none 0 0) (.slice none 0 0) (fun k => k < base) [] [] from by rw [hp, hq, hbase]; exact HP.out)
  rw [← hp, ← hq]
  have HBE := Aside0.mk hbase
  clear hp hq hbase
  go_wp2_with fail
  go_loopw [40] (fun v40 wr => ∃ (k : Nat) (vc vf vl : Value) (X : Nat → Prop) (cs : Cs), k ≤ l.length ∧ v40 = .int .i64 (k : Int) ∧ Aside0 (Step w2 wr base p q size room vc vf vl (fun k => k < base) X cs cs) ∧ Aside0 (CsOk cs)) (fun v40 _ => l.length - (intOf v40).toNat)
  case atStart => exact ⟨0, _, _, _, _, [], Nat.zero_le _, rfl, ⟨⟨HP.out, fun _ h => h, Below.refl _ _, fun _ _ => rfl⟩⟩, ⟨CsOk.nil⟩⟩
  case round =>
    obtain ⟨k, vc, vf, vl, X, cs, hk, rfl, HS, HCS⟩ := hrel
    have HBW := Aside0.mk (show Below w.heap.size w wr from HW2.out.trans (by have := HS.out.low; rwa [HBE.out] at this))
    by_cases hlt : k < l.length
    · have HK := Aside0.mk hlt
      have hd : decide ((k : Int) < (l.length : Int)) = true := decide_eq_true (by omega)
      have hd2 : decide (k < l.length) = true := decide_eq_true hlt
      have hd3 : (k : Int) < (l.length : Int) := by omega
      obtain ⟨ad, A4, c4, A5, c5, A6, c6, hA, a0, a1, a2, a3, a4, a5, a6, l4, g4, l5, g5, l6, g6⟩ := at_Do HL.out (k : Int) (by omega) (by omega)
      have hDO := HO.out _ (rdDo_mem (xs := l) (i := (k : Int)) (by simpa using hlt))
      obtain ⟨dd, hdd⟩ : ∃ dd, dd = rdDo l (k : Int) := ⟨_, rfl⟩
      rw [← hdd] at a0 a1 a2 a3 a4 a5 a6 l4 g4 l5 g5 l6 g6 hDO
      clear hdd
      have HDO := Aside0.mk hDO
      have HV4 := Aside0.mk (HS.out.bx (show BX w2 (fun k => k < base) (.slice A4 dd.x.length c4) dd.x from by rw [HBE.out]; exact Kd.V_below (V_of_C 5 g4 l4) HW2.out))
      have HV5 := Aside0.mk (HS.out.bx (show BX w2 (fun k => k < base) (.slice A5 dd.y.length c5) dd.y from by rw [HBE.out]; exact Kd.V_below (V_of_C 5 g5 l5) HW2.out))
      have HV6 := Aside0.mk (HS.out.ints (show Kd.V (Kd.int .i64) 3 w2 0 (fun k => k < base) (.slice A6 dd.r.length c6) dd.r from by rw [HBE.out]; exact Kd.V_below (V_of_C 3 g6 l6) HW2.out))
      rw [hA]
      replace a0 := (HBW.out.cell (World.block_lt_of_cell? w _ a0)).trans a0
      replace a1 := (HBW.out.cell (World.block_lt_of_cell? w _ a1)).trans a1
      replace a2 := (HBW.out.cell (World.block_lt_of_cell? w _ a2)).trans a2
      replace a3 := (HBW.out.cell (World.block_lt_of_cell? w _ a3)).trans a3
      replace a4 := (HBW.out.cell (World.block_lt_of_cell? w _ a4)).trans a4
      replace a5 := (HBW.out.cell (World.block_lt_of_cell? w _ a5)).trans a5
      replace a6 := (HBW.out.cell (World.block_lt_of_cell? w _ a6)).trans a6
      simp only [Int.toNat_natCast] at a0 a1 a2 a3 a4 a5 a6
      clear l4 g4 l5 g5 l6 g6 hA hDO
      have s0 := blk_cell (show (wr.alloc (.cells #[.int .i64 dd.a, .int .i64 dd.b, .int .i64 dd.c, .int .i64 dd.d, .slice A4 dd.x.length c4, .slice A5 dd.y.length c5, .slice A6 dd.r.length c6] 34)).heap[wr.heap.size]? = some (.cells [.int .i64 dd.a, .int .i64 dd.b, .int .i64 dd.c, .int .i64 dd.d, .slice A4 dd.x.length c4, .slice A5 dd.y.length c5, .slice A6 dd.r.length c6].toArray 34 (0, 0)) from heap_alloc_new wr _) 0
      have s1 := blk_cell (show (wr.alloc (.cells #[.int .i64 dd.a, .int .i64 dd.b, .int .i64 dd.c, .int .i64 dd.d, .slice A4 dd.x.length c4, .slice A5 dd.y.length c5, .slice A6 dd.r.length c6] 34)).heap[wr.heap.size]? = some (.cells [.int .i64 dd.a, .int .i64 dd.b, .int .i64 dd.c, .int .i64 dd.d, .slice A4 dd.x.length c4, .slice A5 dd.y.length c5, .slice A6 dd.r.length c6].toArray 34 (0, 0)) from heap_alloc_new wr _) 1
      have s2 := blk_cell (show (wr.alloc (.cells #[.int .i64 dd.a, .int .i64 dd.b, .int .i64 dd.c, .int .i64 dd.d, .slice A4 dd.x.length c4, .slice A5 dd.y.length c5, .slice A6 dd.r.length c6] 34)).heap[wr.heap.size]? = some (.cells [.int .i64 dd.a, .int .i64 dd.b, .int .i64 dd.c, .int .i64 dd.d, .slice A4 dd.x.length c4, .slice A5 dd.y.length c5, .slice A6 dd.r.length c6].toArray 34 (0, 0)) from heap_alloc_new wr _) 2
      have s3 := blk_cell (show (wr.alloc (.cells #[.int .i64 dd.a, .int .i64 dd.b, .int .i64 dd.c, .int .i64 dd.d, .slice A4 dd.x.length c4, .slice A5 dd.y.length c5, .slice A6 dd.r.length c6] 34)).heap[wr.heap.size]? = some (.cells [.int .i64 dd.a, .int .i64 dd.b, .int .i64 dd.c, .int .i64 dd.d, .slice A4 dd.x.length c4, .slice A5 dd.y.length c5, .slice A6 dd.r.length c6].toArray 34 (0, 0)) from heap_alloc_new wr _) 3
      have s4 := blk_cell (show (wr.alloc (.cells #[.int .i64 dd.a, .int .i64 dd.b, .int .i64 dd.c, .int .i64 dd.d, .slice A4 dd.x.length c4, .slice A5 dd.y.length c5, .slice A6 dd.r.length c6] 34)).heap[wr.heap.size]? = some (.cells [.int .i64 dd.a, .int .i64 dd.b, .int .i64 dd.c, .int .i64 dd.d, .slice A4 dd.x.length c4, .slice A5 dd.y.length c5, .slice A6 dd.r.length c6].toArray 34 (0, 0)) from heap_alloc_new wr _) 4
      have s5 := blk_cell (show (wr.alloc (.cells #[.int .i64 dd.a, .int .i64 dd.b, .int .i64 dd.c, .int .i64 dd.d, .slice A4 dd.x.length c4, .slice A5 dd.y.length c5, .slice A6 dd.r.length c6] 34)).heap[wr.heap.size]? = some (.cells [.int .i64 dd.a, .int .i64 dd.b, .int .i64 dd.c, .int .i64 dd.d, .slice A4 dd.x.length c4, .slice A5 dd.y.length c5, .slice A6 dd.r.length c6].toArray 34 (0, 0)) from heap_alloc_new wr _) 5
      have s6 := blk_cell (show (wr.alloc (.cells #[.int .i64 dd.a, .int .i64 dd.b, .int .i64 dd.c, .int .i64 dd.d, .slice A4 dd.x.length c4, .slice A5 dd.y.length c5, .slice A6 dd.r.length c6] 34)).heap[wr.heap.size]? = some (.cells [.int .i64 dd.a, .int .i64 dd.b, .int .i64 dd.c, .int .i64 dd.d, .slice A4 dd.x.length c4, .slice A5 dd.y.length c5, .slice A6 dd.r.length c6].toArray 34 (0, 0)) from heap_alloc_new wr _) 6
      simp at s0 s1 s2 s3 s4 s5 s6
      have hcm : decide ((k : Int) < (l.length : Int)) = true := hd
      have HKL := Aside0.mk hk
      clear hk
      by_cases h40 : k < 40
      · have e40 : decide ((k : Int) < 40) = true := decide_eq_true (by omega)
        have f40 : decide (k < 40) = true := decide_eq_true h40
        by_cases h20 : dd.r.length ≤ 20
        · have e20 : decide ((dd.r.length : Int) ≤ 20) = true := decide_eq_true (by omega)
          have f20 : decide (dd.r.length ≤ 20) = true := decide_eq_true h20
          have H20 := Aside0.mk h20
          clear h20 h40
          go_wp2_with fail
          clear s0 s1 s2 s3 s4 s5 s6 a0 a1 a2 a3 a4 a5 a6
          obtain ⟨w5, hw5⟩ : ∃ w5, w5 = (wr.alloc (.cells #[.int .i64 dd.a, .int .i64 dd.b, .int .i64 dd.c, .int .i64 dd.d, .slice A4 dd.x.length c4, .slice A5 dd.y.length c5, .slice A6 dd.r.length c6] 34)) := ⟨_, rfl⟩
          rw [← hw5]
          have HB5 := Aside0.mk (show Below wr.heap.size wr w5 from by rw [hw5]; exact below_alloc (Below.refl _ _) _)
          have HS5 := Aside0.mk (HS.out.below HB5.out)
          clear hw5
          refine (does_calls (w0 := w) HS5.out.pr HCS.out dd.a dd.b dd.c dd.d A4 A5 A6 c4 c5 c6 dd.x dd.y dd.r (Kd.V_below HV4.out HB5.out) (Kd.V_below HV5.out HB5.out) HDO.out.1 HDO.out.2.1 (Kd.V_below HV6.out HB5.out) (by have := H20.out; omega) HDO.out.2.2 HBE.out HGS.out (by rw [HBE.out]; exact HBW.out.trans (HB5.out.mono HBW.out.size))).mono ?_
          rintro e w6 ⟨rfl, vc6, vf6, vl6, X6, cs6, hs6, hcs6⟩
          have HS6 := Aside0.mk (HS5.out.trans hs6)
          have HCS6 := Aside0.mk hcs6
          clear hs6 hcs6
          go_wp2_with fail
          have hk := HKL.out
          have hlm := HLM.out
          have hw1 : wrap64 ((k : Int) + 1) = ((k + 1 : Nat) : Int) := by rw [wrap64_id _ (by omega)]; omega
          have hmeas := step_meas (k := k) (n := l.length) HK.out hw1
          go_roundw
          case measure => exact hmeas
          case rel => exact ⟨k + 1, _, _, _, _, _, by omega, by rw [hw1], HS6, HCS6⟩
        · have e20 : decide ((dd.r.length : Int) ≤ 20) = false := decide_eq_false (by omega)
          have f20 : decide (dd.r.length ≤ 20) = false := decide_eq_false h20
          clear h20 h40
          go_wp2_with fail
          have hk := HKL.out
          have hlm := HLM.out
          have hw1 : wrap64 ((k : Int) + 1) = ((k + 1 : Nat) : Int) := by rw [wrap64_id _ (by omega)]; omega
          have hmeas := step_meas (k := k) (n := l.length) HK.out hw1
          go_roundw
          case measure => exact hmeas
          case rel => exact ⟨k + 1, _, _, _, _, _, by omega, by rw [hw1], ⟨HS.out.below (below_alloc (Below.refl _ _) _)⟩, HCS⟩
      · have e40 : decide ((k : Int) < 40) = false := decide_eq_false (by omega)
        have f40 : decide (k < 40) = false := decide_eq_false h40
        clear h40
        go_wp2_with fail
        have hk := HKL.out
        have hlm := HLM.out
        have hw1 : wrap64 ((k : Int) + 1) = ((k + 1 : Nat) : Int) := by rw [wrap64_id _ (by omega)]; omega
        have hmeas := step_meas (k := k) (n := l.length) HK.out hw1
        go_roundw
        case measure => exact hmeas
        case rel => exact ⟨k + 1, _, _, _, _, _, by omega, by rw [hw1], ⟨HS.out.below (below_alloc (Below.refl _ _) _)⟩, HCS⟩
    · obtain rfl : k = l.length := by omega
      have hd : decide ((l.length : Int) < (l.length : Int)) = false := decide_eq_false (by omega)
      have hd2 : decide (l.length < l.length) = false := decide_eq_false (by omega)
      clear hk hlt
      go_wp2_with fail
      refine (same_calls (w0 := w) HS.out.pr HCS.out HBE.out HGS.out (by rw [HBE.out]; exact HBW.out)).mono ?_
      rintro e w8 ⟨rfl, hb⟩
      have HB8 := Aside0.mk (below_step HBW.out hb)
      clear hb
      go_wp2_with fail
      refine (annalslaw09_awake.calls true _ (GlobS.of HGS.out HB8.out) rfl).mono ?_
      rintro e w7 ⟨rfl, hB7⟩
      have HB7 := Aside0.mk (below_step HB8.out hB7)
      clear hB7
      go_wp2_with fail
      go_ret
      exact ⟨by simp, HB7.out⟩
end Go.Proofs.YtdeneoknjeegbaaDoor.P
end
section
set_option linter.unusedVariables false
set_option linter.unusedSimpArgs false
namespace Go.Proofs.YtdeneoknjeegbaaDoor.P
open Go.RowKit Go.Proofs.YtdeneoknjeegbaaDoorW.PrintWords Go.Proofs.YtdeneoknjeegbaaDoorW.PrintLast Go.Proofs.YtdeneoknjeegbaaDoorW.PrintMore
theorem list_of {α : Type} (n : Nat) (R : Nat → α → Prop) (h : ∀ i, i < n → ∃ a, R i a) : ∃ xs : List α, xs.length = n ∧ ∀ i a, xs[i]? = some a → R i a := by
  induction n with
  | zero => exact ⟨[], rfl, fun i a hi => by simp at hi⟩
  | succ n ih =>
    obtain ⟨xs, hl, hx⟩ := ih (fun i hi => h i (by omega))
    obtain ⟨a, ha⟩ := h n (by omega)
    refine ⟨xs ++ [a], by simp [hl], fun i b hb => ?_⟩
    by_cases hi : i < n
    · rw [List.getElem?_append_left (by omega)] at hb
      exact hx i b hb
    · rw [List.getElem?_append_right (by omega)] at hb
      have h0 : i - xs.length = 0 := by
        have := (List.getElem?_eq_some_iff.1 hb).1
        simp at this
        omega
      rw [h0] at hb
      have hin : i = n := by omega
      subst hin
      have : a = b := by simpa using hb
      subst this
      exact ha
theorem weightsAll_mem {H : Type} {P : Program} {e : TypeId} {l : List (DataW H)} {d : DataW H} (hd : d ∈ l) {n : Nat} (hn : n ∈ d.weights P e) : n ∈ DataW.weightsAll P e l := by
  induction l with
  | nil => simp at hd
  | cons a l ih =>
    simp only [DataW.weightsAll, List.mem_append]
    rcases List.mem_cons.1 hd with rfl | hd
    · exact .inl hn
    · exact .inr (ih hd)
structure Opens (P : Program) (t : Nat) {α : Type} (d : Kd α) (wf : α → Prop) : Prop where
  size : P.cellsOf t = d.sz
  get : ∀ {H : Type} {enc : TypeId × Value → H} {w : World} {base : Nat} {spare : Nat → Bool} {held : Bool} {fuel : Nat} {cs : List Value} {x : DataW H × List MemPlace},
    DataW.trod enc P w base spare held fuel t cs = some x → (∀ n ∈ x.1.weights P t, n ≤ reachBytes) → ∃ a, d.K w a cs ∧ wf a
theorem Opens.imp {P : Program} {t : Nat} {α : Type} {d : Kd α} {wf wf' : α → Prop} (h : Opens P t d wf) (hi : ∀ a, wf a → wf' a) : Opens P t d wf' :=
  ⟨h.size, fun h1 h2 => by
    obtain ⟨a, h3, h4⟩ := h.get h1 h2
    exact ⟨a, h3, hi a h4⟩⟩
theorem Opens.int {P : Program} {t : Nat} {k : IntKind} (hu : P.underlying t = some (.int k)) (hc : P.cellsOf t = 1) : Opens P t (Kd.int k) (fun n => (Lit.int k n).wf = true) :=
  ⟨hc, fun h _ => by
    obtain ⟨n, rfl, _, hw⟩ := DataW.trod_int hu h
    exact ⟨n, rfl, hw⟩⟩
theorem Opens.bool {P : Program} {t : Nat} (hu : P.underlying t = some .bool) (hc : P.cellsOf t = 1) : Opens P t Kd.bool (fun _ => True) :=
  ⟨hc, fun h _ => by
    obtain ⟨n, rfl, _⟩ := DataW.trod_bool hu h
    exact ⟨n, rfl, trivial⟩⟩
theorem Opens.slice {P : Program} {t e : Nat} {α : Type} {d : Kd α} {wf : α → Prop} (hu : P.underlying t = some (.slice e)) (hc : P.cellsOf t = 1) (he : Opens P e d wf) :
    Opens P t (Kd.slice e d) (fun xs => xs.length * P.bytesOf e ≤ reachBytes ∧ ∀ a, a ∈ xs → wf a) := by
  refine ⟨hc, fun {H enc w base spare held fuel cs x} h hw => ?_⟩
  rcases DataW.trod_slice hu h with ⟨rfl, rfl⟩ | ⟨ad, len, cap, elems, rest, n, _, rfl, rfl, hb, hl, hm, hlen, hel, hsp, hns⟩
  · exact ⟨[], ⟨none, 0, rfl, Nat.le_refl _, Kd.C_nil d w⟩, by simp, by simp⟩
  · have hwa : ∀ d0 ∈ elems.map (·.1), ∀ m ∈ DataW.weights P e d0, m ≤ reachBytes := fun d0 hd0 m hm0 => hw m (by
      simp only [DataW.weights, hu, List.mem_cons, List.mem_append]
      exact .inr (.inl (weightsAll_mem hd0 hm0)))
    have hsz : (elems.length + rest.length) * P.bytesOf e ≤ reachBytes := hw _ (by simp [DataW.weights, hu])
    obtain ⟨xs, hxl, hx⟩ := list_of len (fun i a => wf a ∧ ∃ c, c.length = d.sz ∧ d.K w a c ∧ ∀ j u, c[j]? = some u → w.cell? (ad.add (i * d.sz + j)) = some u) (fun i hi => by
      have h1 := hel i hi
      have hi' : i < elems.length := by omega
      rw [List.getElem?_eq_getElem hi', Option.bind_eq_some_iff] at h1
      obtain ⟨c, hc1, hc2⟩ := h1
      obtain ⟨_, hlc, hcell⟩ := World.cells?_some hc1
      obtain ⟨a, hK, hwf⟩ := he.get hc2 (fun m hm0 => hwa _ (List.mem_map.2 ⟨_, List.getElem_mem hi', rfl⟩) m hm0)
      refine ⟨a, hwf, c, d.K_len hK, hK, fun j u hj => ?_⟩
      have hj' : j < c.length := (List.getElem?_eq_some_iff.1 hj).1
      have h2 := hcell j (by omega)
      rw [hj] at h2
      rw [← h2, he.size]
      congr 1
      unfold Addr.add
      by_cases h3 : i * d.sz = 0 <;> by_cases h4 : j = 0 <;> simp [h3, h4, Nat.add_assoc])
    refine ⟨xs, ⟨some ad, cap, by rw [hxl], by omega, ⟨rfl, by unfold maxLen at hm; omega, fun _ => ⟨ad, rfl, fun j p hj => ?_⟩⟩⟩, ?_, fun a ha => ?_⟩
    · obtain ⟨_, c, h1, h2, h3⟩ := hx j p hj
      exact ⟨c, h1, h2, h3⟩
    · rw [hxl]
      refine Nat.le_trans (Nat.mul_le_mul_right _ ?_) hsz
      omega
    · obtain ⟨i, hi⟩ := List.getElem?_of_mem ha
      exact (hx i a hi).1
structure OpensF (P : Program) (fs : List Field) (off : Nat) {α : Type} (d : Kd α) (wf : α → Prop) : Prop where
  get : ∀ {H : Type} {enc : TypeId × Value → H} {w : World} {base : Nat} {spare : Nat → Bool} {held : Bool} {fuel : Nat} {cs : List Value} {xs : List (DataW H × List MemPlace)},
    cs.length = off + d.sz → xs.length = fs.length → (∀ (i : Nat) (f : Field), fs[i]? = some f → DataW.trod enc P w base spare held fuel f.type ((cs.drop f.offset).take (P.cellsOf f.type)) = xs[i]?) →
    (∀ n ∈ DataW.weightsEach P (fs.map (·.type)) (xs.map (·.1)), n ≤ reachBytes) → ∃ a, d.K w a (cs.drop off) ∧ wf a
theorem OpensF.one {P : Program} {f : Field} {α : Type} {d : Kd α} {wf : α → Prop} {t off : Nat} (ht : f.type = t) (ho : f.offset = off) (h : Opens P t d wf) : OpensF P [f] off d wf := by
  subst ht
  subst ho
  refine ⟨fun {H enc w base spare held fuel cs xs} hl hxl hx hw => ?_⟩
  match xs, hxl with
  | [x], _ =>
    have h1 := hx 0 f rfl
    rw [List.take_of_length_le (by rw [List.length_drop, h.size]; omega)] at h1
    exact h.get h1 (fun n hn => hw n (by simp only [List.map_cons, List.map_nil, DataW.weightsEach, List.mem_append]; exact .inl hn))
theorem OpensF.cons {P : Program} {f : Field} {fs : List Field} {α β : Type} {d : Kd α} {d' : Kd β} {wf : α → Prop} {wf' : β → Prop} {t off off' : Nat} (ht : f.type = t) (ho : f.offset = off) (h : Opens P t d wf)
    (ho' : off + d.sz = off') (hr : OpensF P fs off' d' wf') : OpensF P (f :: fs) off (Kd.pair d d') (fun x => wf x.1 ∧ wf' x.2) := by
  subst ht
  subst ho
  subst ho'
  refine ⟨fun {H enc w base spare held fuel cs xs} hl hxl hx hw => ?_⟩
  match xs, hxl with
  | x :: xs, hxl =>
    have hl' : cs.length = f.offset + (d.sz + d'.sz) := hl
    have h1 := hx 0 f rfl
    obtain ⟨a, ha, hwa⟩ := h.get h1 (fun n hn => hw n (by simp only [List.map_cons, DataW.weightsEach, List.mem_append]; exact .inl hn))
    obtain ⟨b, hb, hwb⟩ := hr.get (by rw [hl']; omega) (by simpa using hxl) (fun i g hg => by simpa using hx (i + 1) g (by simpa using hg)) (fun n hn => hw n (by simp only [List.map_cons, DataW.weightsEach, List.mem_append]; exact .inr hn))
    refine ⟨(a, b), ⟨_, _, ?_, ha, hb⟩, hwa, hwb⟩
    rw [h.size]
    have := List.take_append_drop d.sz (cs.drop f.offset)
    rw [List.drop_drop] at this
    exact this.symm
theorem Opens.struct {P : Program} {t : Nat} {fs : Array Field} {α : Type} {d : Kd α} {wf : α → Prop} (hu : P.underlying t = some (.struct fs)) (hc : P.cellsOf t = d.sz) (h : OpensF P fs.toList 0 d wf) : Opens P t d wf := by
  refine ⟨hc, fun {H enc w base spare held fuel cs x} h1 hw => ?_⟩
  obtain ⟨xs, n, _, rfl, hl, hxl, hx⟩ := DataW.trod_struct hu h1
  have := h.get (cs := cs) (by rw [hl, hc]; omega) (by simpa using hxl) (fun i f hf => hx i f (by simpa using hf)) (fun n hn => hw n (by simp only [DataW.weights, hu]; exact hn))
  simpa using this
theorem Opens.iso {P : Program} {t : Nat} {α β : Type} {d : Kd α} {wf : α → Prop} (h : Opens P t d wf) (f : β → α) (g : α → β) (hfg : ∀ a, f (g a) = a) : Opens P t (Kd.iso d f) (fun b => wf (f b)) :=
  ⟨h.size, fun h1 hw => by
    obtain ⟨a, ha, hwa⟩ := h.get h1 hw
    exact ⟨g a, by show d.K _ (f (g a)) _; rw [hfg]; exact ha, by show wf (f (g a)); rw [hfg]; exact hwa⟩⟩
theorem Opens.param {P : Program} {t e : Nat} {α : Type} {d : Kd α} {wf : List α → Prop} (ho : Opens P t (Kd.slice e d) wf) {H : Type} {enc : TypeId × Value → H} {w : World} {base : Nat} {spare : Nat → Bool} {held : Bool} {fuel : Nat}
    {A : Option Addr} {len cap : Nat} {x : DataW H × List MemPlace} (h : DataW.trod enc P w base spare held fuel t [.slice A len cap] = some x) (hw : ∀ n ∈ x.1.weights P t, n ≤ reachBytes) :
    ∃ xs : List α, len = xs.length ∧ xs.length ≤ cap ∧ d.C w A xs.length xs ∧ wf xs := by
  obtain ⟨xs, ⟨A', c, he, hl, hC⟩, hwf⟩ := ho.get h hw
  injection he with he _
  injection he with h1 h2 h3
  subst h1
  subst h3
  exact ⟨xs, h2, hl, hC, hwf⟩
end Go.Proofs.YtdeneoknjeegbaaDoor.P
end
section
set_option linter.unusedVariables false
set_option linter.unusedSimpArgs false
namespace Go.Proofs.YtdeneoknjeegbaaDoor.P
open Go.RowKit Go.ChangeShapes Go.WideShapes Go.Proofs.YtdeneoknjeegbaaDoorW.PrintWords Go.Proofs.YtdeneoknjeegbaaDoorW.PrintLast Go.Proofs.YtdeneoknjeegbaaDoorW.PrintMore
theorem opensByte : Opens Tryd.prog 5 (Kd.int .u8) (fun n => (Lit.int .u8 n).wf = true) := Opens.int Tryd.underlying5 (by kernel_rfl)
theorem opensInt : Opens Tryd.prog 3 (Kd.int .i64) (fun n => (Lit.int .i64 n).wf = true) := Opens.int Tryd.underlying3 (by kernel_rfl)
theorem opensBytes : Opens Tryd.prog 31 (Kd.slice 5 (Kd.int .u8)) (fun xs => xs.length * Tryd.prog.bytesOf 5 ≤ reachBytes ∧ ∀ a, a ∈ xs → (Lit.int .u8 a).wf = true) := Opens.slice Tryd.underlying31 (by kernel_rfl) opensByte
theorem opensInts : Opens Tryd.prog 32 (Kd.slice 3 (Kd.int .i64)) (fun xs => xs.length * Tryd.prog.bytesOf 3 ≤ reachBytes ∧ ∀ a, a ∈ xs → (Lit.int .i64 a).wf = true) := Opens.slice Tryd.underlying32 (by kernel_rfl) opensInt
theorem wfB {l : List Int} (h : ∀ x ∈ l, (Lit.int .u8 x).wf = true) : BytesOk l := by
  intro x hx
  have := h x hx
  simp only [Lit.wf, IntKind.min, IntKind.max, IntKind.signed, IntKind.bits, Bool.and_eq_true, decide_eq_true_eq] at this
  simp at this
  omega
theorem wfI {a : Int} (h : (Lit.int .i64 a).wf = true) : -9223372036854775808 ≤ a ∧ a < 9223372036854775808 := by
  simp only [Lit.wf, IntKind.min, IntKind.max, IntKind.signed, IntKind.bits, Bool.and_eq_true, decide_eq_true_eq, if_true] at h
  omega
theorem each_mem {H : Type} {P : Program} : ∀ {ts : List TypeId} {ds : List (DataW H)} (h : (DataW.weightsEach P ts ds).all (· ≤ reachBytes) = true) (j : Nat) (t : TypeId) (d : DataW H), ts[j]? = some t → ds[j]? = some d → ∀ n ∈ d.weights P t, n ≤ reachBytes
  | [], _, _, j, t, d, ht, _ => by simp at ht
  | t0 :: ts, [], _, j, t, d, _, hd => by simp at hd
  | t0 :: ts, d0 :: ds, h, j, t, d, ht, hd => by
    simp only [DataW.weightsEach, List.all_append, Bool.and_eq_true] at h
    cases j with
    | zero =>
      obtain rfl := Option.some.inj ht
      obtain rfl := Option.some.inj hd
      intro n hn
      have := List.all_eq_true.1 h.1 n hn
      simpa using this
    | succ j => exact each_mem h.2 j t d (by simpa using ht) (by simpa using hd)
end Go.Proofs.YtdeneoknjeegbaaDoor.P
end
section
set_option linter.unusedVariables false
set_option linter.unusedSimpArgs false
namespace Go.Proofs.YtdeneoknjeegbaaDoor.P
open Go.RowKit Go.ChangeShapes Go.WideShapes Go.Proofs.YtdeneoknjeegbaaDoor.Pure Go.Proofs.YtdeneoknjeegbaaDoorW.PrintWords Go.Proofs.YtdeneoknjeegbaaDoorW.PrintLast Go.Proofs.YtdeneoknjeegbaaDoorW.PrintMore
theorem opensDo : Opens Tryd.prog 34 kDo DoOk := by
  have h := (Opens.struct (P := Tryd.prog) (t := 34) Tryd.underlying34 (by kernel_rfl) (OpensF.cons rfl rfl opensInt rfl (OpensF.cons rfl rfl opensInt rfl (OpensF.cons rfl rfl opensInt rfl (OpensF.cons rfl rfl opensInt rfl (OpensF.cons rfl rfl opensBytes rfl (OpensF.cons rfl rfl opensBytes rfl (OpensF.one rfl rfl opensInts)))))))).iso (fun x : DoS => (x.a, x.b, x.c, x.d, x.x, x.y, x.r)) (fun y => ⟨y.1, y.2.1, y.2.2.1, y.2.2.2.1, y.2.2.2.2.1, y.2.2.2.2.2.1, y.2.2.2.2.2.2⟩) (fun _ => rfl)
  refine h.imp fun x hx => ?_
  obtain ⟨h0, h1, h2, h3, h4, h5, h6⟩ := hx
  exact ⟨wfB h4.2, wfB h5.2, by have h3' : x.d < 9223372036854775808 := (wfI h3).2; omega⟩
theorem opensDos : Opens Tryd.prog 22 (Kd.slice 34 kDo) (fun xs => xs.length * Tryd.prog.bytesOf 34 ≤ reachBytes ∧ ∀ a, a ∈ xs → DoOk a) := Opens.slice Tryd.underlying22 (by kernel_rfl) opensDo
section
variable {H : Type} {enc : TypeId × Value → H} {w : World} {base : Nat} {spare : Nat → Bool} {held : Bool} {r : Go.Reach} {b0 : Nat} {v : Value} {d : DataW H} {p : List MemPlace}
set_option maxRecDepth 100000 in
theorem dos_param (hv : Value.okWide Tryd.prog w r b0 22 v) (h : DataW.Trod enc Tryd.prog w base spare held 22 v d p) (hw : ∀ n ∈ d.weights Tryd.prog 22, n ≤ reachBytes) :
    ∃ (A : Option Addr) (c : Nat) (xs : List DoS), v = .slice A xs.length c ∧ xs.length ≤ c ∧ Kd.C kDo w A xs.length xs ∧ ∀ a ∈ xs, DoOk a := by
  obtain ⟨A, len, cap, rfl⟩ := okWide_slice Tryd.underlying22 hv
  obtain ⟨fuel, hf⟩ := h
  obtain ⟨xs, rfl, hl, hC, hwf⟩ := opensDos.param hf hw
  exact ⟨A, cap, xs, rfl, hl, hC, hwf.2⟩
end
end Go.Proofs.YtdeneoknjeegbaaDoor.P
end
section
namespace Go.Proofs.YtdeneoknjeegbaaDoorW.PrintWords
open Go.ChangeShapes Go.WideShapes
end Go.Proofs.YtdeneoknjeegbaaDoorW.PrintWords
end
