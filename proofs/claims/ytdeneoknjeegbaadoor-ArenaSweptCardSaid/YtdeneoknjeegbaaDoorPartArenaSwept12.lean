/- Lemmas of this claim, part 12. -/
import Derived.Test.YtdeneoknjeegbaaDoorPartArenaSwept11
section
set_option linter.unusedVariables false
set_option linter.unusedSimpArgs false
namespace Go.Proofs.YtdeneoknjeegbaaDoor.P
open Go.RowKit Go.Proofs.YtdeneoknjeegbaaDoorW.PrintWords Go.Proofs.YtdeneoknjeegbaaDoorW.PrintLast Go.Proofs.YtdeneoknjeegbaaDoorW.PrintMore
def mark_T8 : Bool × List (List Nat × List Nat) := (true, [([], []), ([], []), ([1], [1]), ([2], [2]), ([3], [3]), ([], []), ([5], [5]), ([6], [6]), ([7], [7]), ([4, 8], [4, 8]), ([0, 9], [0, 9]), ([10, 10, 0, 1, 2, 3, 4, 5, 6, 7, 8, 9, 10], [0, 10])])
def mark_B8 : List Nat := [0, 0, 2, 6, 14, 0, 32, 96, 224, 510, 1023, 2047]
theorem mark_tab8 : rtab .any (opsOf Tryd.f49 8) = mark_T8 := by kernel_rfl
theorem mark_bits8 : waitsOk mark_T8.2 mark_B8 = true := by kernel_rfl
theorem lit2_C {w : World} {g : Nat} {x y : Int} (h : w.heap[g]? = some (.cells #[.int .i64 x, .int .i64 y] 3 (0, 0))) : Kd.C (Kd.int .i64) w (some ⟨g, 0, none⟩) 2 [x, y] := by
  refine Kd.C_of_reads (h1 := fun _ => rfl) (d := 0) ⟨rfl, by decide, fun _ => ⟨_, rfl, fun j hj => ?_⟩⟩
  obtain rfl | rfl : j = 0 ∨ j = 1 := by omega
  · simp [World.cell?, Addr.add, h]
  · simp [World.cell?, Addr.add, h]
theorem lit1_R {w : World} (base : Nat) (hb : base ≤ w.heap.size) (x : Int) : FreeR (w.alloc (.cells #[.int .i64 x] 3)) base (.slice (some ⟨w.heap.size, 0, none⟩) 1 1) [x] :=
  ⟨fun _ _ => trivial, [.int .i64 x], by
    have h2 := World.ownsRow_lit (base := base) (e := 3) (size := 1) w #[.int .i64 x] 1 hb (by decide) (by rfl)
    exact (show (w.alloc (.cells #[.int .i64 x] 3)).ownsRow base 3 1 (.slice (some ⟨w.heap.size, 0, none⟩) 1 1) 1 [.int .i64 x] from by simpa using h2), Kd.reps_scalar [x]⟩
theorem FreeR.last {w : World} {base k c : Nat} {A : Option Addr} {l : List Int} (h : FreeR w base (.slice A k c) l) (m : Nat) (hm : k = m + 1) : ∃ g, A = some ⟨g, 0, none⟩ ∧ l = l.take m ++ [gn l m] := by
  have hl := FreeR.len h
  obtain ⟨ad, cc, e, hcl, hcK, hcc⟩ := Kd.C_get (FreeR.readsC h) (0 : Int) 0 (by omega) (by omega)
  subst e
  obtain ⟨g, rfl⟩ := Kd.R_head h
  refine ⟨g, rfl, ?_⟩
  have h3 : m < l.length := by omega
  rw [gn_lt h3]
  have h4 : l.drop m = [l[m]] := by rw [List.drop_eq_getElem_cons h3, List.drop_of_length_le (by omega)]
  rw [← h4, List.take_append_drop]
theorem ArenaM.keepB {w w1 : World} {base p gm : Nat} {size room : Int} {vc vf : Value} {X : Nat → Prop} {cs : Cs} (h : ArenaM w base p size room vc vf X cs) (hg : ¬ OwnS p vc vf gm ∧ ¬ X gm) (hk : KB w w1 gm) : ArenaM w1 base p size room vc vf X cs := by
  obtain ⟨rows, fr, hv⟩ := h.mem
  refine h.step hk.k.1 (fun k hlt ho => hk.k.2 k hlt (fun e => ?_) (by simp)) (fun _ h => h) (fun k hx => ⟨Nat.lt_of_lt_of_le (hv.sep k hx).1 hk.k.1, (hv.sep k hx).2⟩)
  subst e
  exact ho.elim hg.1 hg.2
abbrev MarksR (w : World) (base : Nat) (v : Value) (l : List Bool) : Prop := Kd.R Kd.bool 4 w base (fun _ => True) v l
theorem MarksR.cell {w : World} {base g n c : Nat} {l : List Bool} (h : MarksR w base (.slice (some ⟨g, 0, none⟩) n c) l) (i : Nat) (hi : i < n) : w.cell? ⟨g, i, none⟩ = some (.bool (l.getD i false)) ∧ w.frozen? ⟨g, i, none⟩ = false := by
  have := Kd.R_celln false h (i : Int) (by omega) (by omega)
  rw [Int.toNat_natCast] at this
  exact this
theorem MarksR.put {w : World} {base g n c : Nat} {l : List Bool} (h : MarksR w base (.slice (some ⟨g, 0, none⟩) n c) l) (i : Nat) (x : Bool) : MarksR (w.setCell ⟨g, i, none⟩ (.bool x)) base (.slice (some ⟨g, 0, none⟩) n c) (l.set i x) := by
  have := Kd.R_putn h (i : Int) x
  rw [Int.toNat_natCast] at this
  exact this
theorem unm_le : ∀ l : List Bool, unm l ≤ l.length
  | [] => Nat.le_refl _
  | true :: r => by have := unm_le r; simp only [unm, List.length_cons]; omega
  | false :: r => by have := unm_le r; simp only [unm, List.length_cons]; omega
def bcell (w : World) (g k : Nat) : Bool := match w.cell? ⟨g, k, none⟩ with
  | some (.bool b) => b
  | _ => false
theorem MarksR.list {w : World} {base g n c : Nat} {l : List Bool} (h : MarksR w base (.slice (some ⟨g, 0, none⟩) n c) l) : (List.range n).map (bcell w g) = l := by
  have hl : n = l.length := (Kd.R_reads' h).1
  refine List.ext_getElem (by simp [hl]) (fun k h1 h2 => ?_)
  rw [List.getElem_map, List.getElem_range]
  unfold bcell
  rw [(h.cell k (by omega)).1]
  simp [List.getD_eq_getElem?_getD, List.getElem?_eq_getElem h2]
theorem MarksR.unm {w : World} {base g n c : Nat} {l : List Bool} (h : MarksR w base (.slice (some ⟨g, 0, none⟩) n c) l) : unm ((List.range n).map (bcell w g)) = P.unm l := by rw [h.list]
theorem atB_calls {w : World} {base p : Nat} {size room : Int} {vc vf : Value} {X : Nat → Prop} {cs : Cs} (h : ArenaM w base p size room vc vf X cs) (i : Int) :
    Calls Tryd.prog 51 #[.pointer (some ⟨p, 0, none⟩), .int .i64 i] w fun e w' => (∃ v, e = .returned v ∧ AtV w X (nodeAt cs i) v ∧ ∀ g d, v = .pointer (some ⟨g, d, none⟩) → OwnS p vc vf g) ∧ w = w' := by
  obtain ⟨rows, fr, hv⟩ := h.mem
  have hs := h.hs
  have hl := h.hl
  have hr := h.hr
  have hlen := hv.len
  obtain ⟨A, c, rfl⟩ := Kd.R_slice hv.cells
  by_cases h0 : i < 0
  · refine (at_neg hv.blk (by omega) i h0).mono ?_
    rintro e w' ⟨rfl, rfl⟩
    exact ⟨⟨_, rfl, by unfold nodeAt; rw [if_neg (by omega)]; rfl, fun g d h => by cases h⟩, rfl⟩
  by_cases h1 : (rows.length : Int) ≤ i
  · refine (at_past hv.blk (by omega) i (by omega) h1).mono ?_
    rintro e w' ⟨rfl, rfl⟩
    exact ⟨⟨_, rfl, by unfold nodeAt; rw [if_pos (by omega), List.getElem?_eq_none (by omega)]; rfl, fun g d h => by cases h⟩, rfl⟩
  obtain ⟨k, rfl⟩ : ∃ k : Nat, i = (k : Int) := ⟨i.toNat, by omega⟩
  have hk : k < rows.length := by omega
  have hro : rows[k]? = some rows[k] := List.getElem?_eq_getElem hk
  obtain ⟨o, ho⟩ : ∃ o, cs[k]? = some o := ⟨_, List.getElem?_eq_getElem (by omega)⟩
  have hok := hv.row k o _ ho hro
  obtain ⟨_, g, c', e, hc⟩ := raw_row hv.cells k _ hro
  injection e with e1 e2 e3
  subst e1
  have hn : nodeAt cs (k : Int) = o := by
    unfold nodeAt
    rw [if_pos (by omega), Int.toNat_natCast, ho]
    rfl
  cases o with
  | none =>
    obtain ⟨t, ht⟩ := hok
    have hc0 := hc 0 (.bool false) (by rw [ht]; rfl)
    refine (at_off hv.blk (by omega) (by omega) k hk (by simpa using hc0)).mono ?_
    rintro e w' ⟨rfl, rfl⟩
    exact ⟨⟨_, rfl, by rw [hn]; rfl, fun g d h => by cases h⟩, rfl⟩
  | some n =>
    obtain ⟨t, ht, hrow⟩ := hok
    have hc0 := hc 0 (.bool true) (by rw [ht]; rfl)
    refine (at_raw hv.blk (by omega) (by omega) k hk (by simpa using hc0)).mono ?_
    rintro e w' ⟨rfl, rfl⟩
    refine ⟨⟨_, rfl, ?_, fun g' d h => by
      injection h with h
      injection h with h
      injection h with h1 _ _
      subst h1
      exact .inr (.inl own_some.symm)⟩, rfl⟩
    rw [hn]
    refine ⟨g, k * 11 + 1, t, rfl, hrow, fun j u hj => ?_⟩
    have := hc (j + 1) u (by rw [ht]; simpa using hj)
    rwa [show k * 11 + 1 + j = k * 11 + (j + 1) by omega]
set_option maxHeartbeats 8000000 in
set_option maxRecDepth 100000 in
theorem mark_calls {w : World} {base p bm : Nat} {size room : Int} {vc vf : Value} {X : Nat → Prop} {cs : Cs} (h : ArenaM w base p size room vc vf X cs) (root : Int) (roots : List Int) {gm n c : Nat} {ms : List Bool} (hm : MarksR w bm (.slice (some ⟨gm, 0, none⟩) n c) ms) (hg : ¬ OwnS p vc vf gm ∧ ¬ X gm) (hd : Dfs cs roots [] ms) :
    Calls Tryd.prog 49 #[.pointer (some ⟨p, 0, none⟩), .int .i64 root, .slice (some ⟨gm, 0, none⟩) n c] w fun e w' => e = .returned (.tuple #[]) ∧ ∃ ms', MarksR w' bm (.slice (some ⟨gm, 0, none⟩) n c) ms' ∧ Dfs cs (roots ++ [root]) [] ms' ∧ KB w w' gm := by
  have HM := Aside0.mk h
  have HMS := Aside0.mk hm
  have HG := Aside0.mk hg
  have HD := Aside0.mk (hd.more root)
  have HWL := Aside0.mk (Nat.le_refl w.heap.size)
  clear h hm hg hd
  go_enter Tryd.func49, Tryd.ntmps49
  go_wp2_with fail
  obtain ⟨W1, hW1⟩ : ∃ W1, W1 = w.alloc (.cells #[.int .i64 root] 3) := ⟨_, rfl⟩
  rw [← hW1]
  have hb1 : Below w.heap.size w W1 := by rw [hW1]; exact below_alloc (Below.refl _ _) _
  have HTD := Aside0.mk (show FreeR W1 w.heap.size (.slice (some ⟨w.heap.size, 0, none⟩) 1 1) [root] from by rw [hW1]; exact lit1_R _ (Nat.le_refl _) root)
  have HMS1 := Aside0.mk (Kd.R_below HMS.out hb1)
  have HK1 := Aside0.mk (KB.of_below hb1 gm)
  have HBD := Aside0.mk (show 1 + 2 * unm ms ≤ 2 * n + 1 from by have := unm_le ms; have := (Kd.R_reads' HMS.out).1; omega)
  have HN4 := Aside0.mk (show n ≤ 4194304 from by have := (Kd.R_reads' HMS.out).1; have := HD.out.len; have := HM.out.hl; have := HM.out.hr; omega)
  have HGML := Aside0.mk (show gm < w.heap.size from own_lt (Kd.R_own HMS.out).choose_spec gm own_some)
  clear hW1 hb1 HMS
  go_loopw [6] (fun v6 wr => ∃ (A : Option Addr) (k ct : Nat) (todo : List Int) (ms : List Bool), v6 = .slice A k ct ∧ k ≤ ct ∧ Aside0 (FreeR wr w.heap.size (.slice A k ct) todo) ∧ Aside0 (MarksR wr bm (.slice (some ⟨gm, 0, none⟩) n c) ms) ∧ Aside0 (Dfs cs (roots ++ [root]) todo ms) ∧ Aside0 (KB w wr gm) ∧ Aside0 (k + 2 * unm ms ≤ 2 * n + 1)) (fun v6 wr => 2 * unm ((List.range n).map (bcell wr gm)) + (match v6 with | .slice _ k _ => k | _ => 0))
  case atStart => exact ⟨_, _, _, [root], _, rfl, Nat.le_refl _, HTD, HMS1, HD, HK1, HBD⟩
  case round =>
    clear HTD HMS1 HD HK1 HBD
    obtain ⟨A, k, ct, todo, ms, rfl, hkc, HTD, HMS, HD, HK, HBD⟩ := hrel
    by_cases h0 : k = 0
    · have hz2 : decide ((k : Int) > 0) = false := decide_eq_false (by omega)
      have hz3 : decide (0 < k) = false := decide_eq_false (by omega)
      have HNIL := Aside0.mk (show todo = [] from List.eq_nil_of_length_eq_zero (by have := FreeR.len HTD.out; omega))
      clear h0
      go_wp2_with fail
      refine bodyPost_end (results_none rfl _ _ _) rfl ?_
      have hd := HD.out
      rw [HNIL.out] at hd
      exact ⟨rfl, ms, HMS.out, hd, HK.out⟩
    · obtain ⟨m, hm⟩ : ∃ m, k = m + 1 := ⟨k - 1, by omega⟩
      obtain ⟨gt, rfl, hsp⟩ := FreeR.last HTD.out m hm
      have hz2 : decide ((k : Int) > 0) = true := decide_eq_true (by omega)
      have hz3 : decide (0 < k) = true := decide_eq_true (by omega)
      have hkm : (k : Int) - 1 = (m : Int) := by omega
      have hkb : k ≤ 9223372036854775807 := by
        have := (FreeR.readsC HTD.out).2.1
        exact this
      have hwm : wrap64 (m : Int) = (m : Int) := by unfold wrap64; omega
      have q1 : (m : Int) < (k : Int) := by omega
      have q2 : (m : Int) ≤ (ct : Int) := by omega
      have q3 : m ≤ ct := by omega
      have hcm := (FreeR.cell HTD.out m (by omega)).1
      obtain ⟨i, hi⟩ : ∃ i, i = gn todo m := ⟨_, rfl⟩
      rw [← hi] at hsp hcm
      have HMr := Aside0.mk (HM.out.keepB HG.out HK.out)
      have HT2 := Aside0.mk (Kd.R_take (m := m) HTD.out (by have := FreeR.len HTD.out; omega))
      have HSP := Aside0.mk hsp
      have HDI := Aside0.mk (show Dfs cs (roots ++ [root]) (todo.take m ++ [i]) ms from by rw [← hsp]; exact HD.out)
      have HKM := Aside0.mk (And.intro hm q3)
      clear h0 hm hi hsp
      go_wp2_with fail
      refine (atB_calls HMr.out i).mono ?_
      rintro e w' ⟨⟨v, rfl, hv, hown⟩, rfl⟩
      have hms := (MarksR.unm HMS.out)
      cases ho : nodeAt cs i with
      | none =>
        rw [ho] at hv
        obtain rfl : v = .pointer none := hv
        have HDN := Aside0.mk (HDI.out.skip (.inl ho))
        clear ho hms hcm
        go_wp2_with fail
        have hkm2 := HKM.out
        go_roundw
        case measure =>
          show 2 * _ + m < 2 * _ + k
          omega
        case rel => exact ⟨_, m, ct, _, ms, rfl, hkm2.2, HT2, HMS, HDN, HK, ⟨by have := HBD.out; omega⟩⟩
      | some nd =>
        have hlt := nodeAt_lt (cs := cs) (i := i) (by rw [ho]; rfl)
        obtain ⟨j, rfl⟩ : ∃ j : Nat, i = (j : Int) := ⟨i.toNat, by omega⟩
        rw [Int.toNat_natCast] at hlt
        have hjn : j < n := by
          have h1 := (Kd.R_reads' HMS.out).1
          have h2 := HDI.out.len
          omega
        rw [ho] at hv
        obtain ⟨gn, dn, r, rfl, ⟨A1, A2, A5, A9, c1, c2, c5, c9, hr, -, -, -, -⟩, hc⟩ := hv
        have n0 := hc 0 (.bool nd.f0) (by rw [hr]; rfl)
        have n7 := hc 7 (.int .i64 nd.f7) (by rw [hr]; rfl)
        have n8 := hc 8 (.int .i64 nd.f8) (by rw [hr]; rfl)
        rw [Nat.add_zero] at n0
        have hmc := MarksR.cell HMS.out j hjn
        have q4 : (j : Int) < (n : Int) := by omega
        have hml : j < ms.length := by have := (Kd.R_reads' HMS.out).1; omega
        cases hmk : ms.getD j false with
        | true =>
          have HDN := Aside0.mk (HDI.out.skip (.inr (by
            unfold Mk
            rw [Int.toNat_natCast, List.getElem?_eq_getElem hml]
            rw [List.getD_eq_getElem?_getD, List.getElem?_eq_getElem hml] at hmk
            exact congrArg some hmk)))
          rw [hmk] at hmc
          obtain ⟨b1, b2⟩ := hmc
          clear ho hms hcm hmk hml hlt hjn hr hc n0 n7 n8
          go_wp2_with fail
          have hkm2 := HKM.out
          go_roundw
          case measure =>
            show 2 * _ + m < 2 * _ + k
            omega
          case rel => exact ⟨_, m, ct, _, ms, rfl, hkm2.2, HT2, HMS, HDN, HK, ⟨by have := HBD.out; omega⟩⟩
        | false =>
          rw [hmk] at hmc
          obtain ⟨b1, b2⟩ := hmc
          have HUNM := Aside0.mk (unm_set ms j (by
            rw [List.getD_eq_getElem?_getD, List.getElem?_eq_getElem hml] at hmk
            rw [List.getElem?_eq_getElem hml]
            exact congrArg some hmk))
          have HNO := Aside0.mk ho
          obtain ⟨w5, hw5⟩ : ∃ w5, w5 = wr.setCell ⟨gm, j, none⟩ (.bool true) := ⟨_, rfl⟩
          have HM5 := Aside0.mk (show MarksR w5 bm (.slice (some ⟨gm, 0, none⟩) n c) (ms.set j true) from by rw [hw5]; exact HMS.out.put j true)
          have hgn : gn ≠ gm := fun e => HG.out.1 (e ▸ hown gn dn rfl)
          have HGT := Aside0.mk (show gn < w.heap.size ∧ w.heap.size ≤ gt ∧ gm < w.heap.size from ⟨by
            obtain ⟨rows, fr, hv⟩ := HM.out.mem
            exact hv.own_lt gn (hown gn dn rfl), own_base (Kd.R_own HTD.out).choose_spec gt own_some, HGML.out⟩)
          have hkeep : ∀ (dd : Nat) (u : Value), wr.cell? ⟨gn, dd, none⟩ = some u → w5.cell? ⟨gn, dd, none⟩ = some u := fun dd u h1 => by
            rw [hw5]
            exact (World.cell?_of_block (w := wr) (a := ⟨gn, dd, none⟩) (Below.heap_setCell wr ⟨gm, j, none⟩ (.bool true) gn hgn)).trans h1
          have p0 := hkeep _ _ n0
          have p7 := hkeep _ _ n7
          have p8 := hkeep _ _ n8
          have HK5 := Aside0.mk (show KB w w5 gm from by rw [hw5]; exact HK.out.set j _)
          have HT5 := Aside0.mk (show FreeR w5 w.heap.size (.slice (some ⟨gt, 0, none⟩) m ct) (todo.take m) from by
            rw [hw5]
            refine Kd.R_set HT2.out (g := gm) (own_typed (Kd.R_own HMS.out).choose_spec gm own_some).choose_spec (by decide) j _)
          have hun : 2 * unm ((List.range n).map (bcell w5 gm)) + 2 = 2 * unm ((List.range n).map (bcell wr gm)) := by
            rw [MarksR.unm HM5.out, MarksR.unm HMS.out]
            have := HUNM.out
            omega
          have HUN := Aside0.mk hun
          have HWR := Aside0.mk hw5
          have HRD := Aside0.mk (show nd.f0 = true ∨ nd.f0 = false from by cases nd.f0 <;> simp)
          obtain ⟨cells0, hcb⟩ := own_typed (Kd.R_own HMS.out).choose_spec gm own_some
          have HMr5 := Aside0.mk (HM.out.keepB HG.out HK5.out)
          clear hun hr hc n0 n7 n8 hms hcm hmk hml hlt hjn ho hcb hkeep hgn hown
          rw [hw5] at p0 p7 p8
          have hsok : ∀ w' : World, Below w5.heap.size w5 w' → w'.cell? ⟨gn, dn + 7, none⟩ = some (.int .i64 nd.f7) ∧ w'.cell? ⟨gn, dn + 8, none⟩ = some (.int .i64 nd.f8) := fun w' hb => by
            rw [← hw5] at p7 p8
            exact ⟨(hb.cell (World.block_lt_of_cell? w5 _ p7)).trans p7, (hb.cell (World.block_lt_of_cell? w5 _ p8)).trans p8⟩
          have HSOK := Aside0.mk hsok
          clear hsok hw5
          cases hf : nd.f0 with
          | true =>
            rw [hf] at p0
            have HDN := Aside0.mk (show Dfs cs (roots ++ [root]) (todo.take m) (ms.set j true) from by
              have := HDI.out.mark HNO.out rfl
              rw [hf] at this
              simpa using this)
            clear hf
            go_wp2_with fail
            rw [← HWR.out]
            have hkm2 := HKM.out
            go_roundw
            case measure =>
              have := HUN.out
              show 2 * _ + m < 2 * _ + k
              omega
            case rel => exact ⟨_, m, ct, _, _, rfl, hkm2.2, HT5, HM5, HDN, HK5, ⟨by have := HBD.out; have := HUNM.out; omega⟩⟩
          | false =>
            rw [hf] at p0
            have HDN := Aside0.mk (show Dfs cs (roots ++ [root]) (todo.take m ++ [nd.f7, nd.f8]) (ms.set j true) from by
              have := HDI.out.mark HNO.out rfl
              rw [hf] at this
              simpa using this)
            clear hf
            go_wp2_with fail
            rw [← HWR.out]
            have HTD5 := HT5
            have HTL := Aside0.mk (show todo.length ≤ 20000000 from by have := FreeR.len HTD.out; have := HBD.out; have := HN4.out; omega)
            have HSOK6 := Aside0.mk (show ∀ (W w' : World), Below w5.heap.size w5 W → W.grownBy w' (Value.slice (some ⟨gt, 0, none⟩) m ct).ownBlock → w'.cell? ⟨gn, dn + 7, none⟩ = some (.int .i64 nd.f7) ∧ w'.cell? ⟨gn, dn + 8, none⟩ = some (.int .i64 nd.f8) from fun W w' hb hg => by
              have h1 := HSOK.out W hb
              have h2 := HGT.out
              have hlt : gn < W.heap.size := by have := hb.size; have := HK5.out.k.1; omega
              have h3 : w'.heap[gn]? = W.heap[gn]? := hg.block gn hlt (by rw [own_some]; intro e; have := Option.some.inj e; omega)
              exact ⟨(World.cell?_of_block (w := W) (a := ⟨gn, dn + 7, none⟩) h3).trans h1.1, (World.cell?_of_block (w := W) (a := ⟨gn, dn + 8, none⟩) h3).trans h1.2⟩)
            have hwl : w.heap.size ≤ w5.heap.size := HK5.out.k.1
            replace HWL := Aside0.mk hwl
            clear hwl p0 p7 p8
            refine start_ (n := 12) (S := fun w' => w'.cell? ⟨gn, dn + 7, none⟩ = some (.int .i64 nd.f7) ∧ w'.cell? ⟨gn, dn + 8, none⟩ = some (.int .i64 nd.f8)) (ds := []) #[false, false, false, false, false, false, false, false, false, false, false, false] (by kernel_rfl) rfl rfl (HSOK.out _ (below_drew (Below.refl _ _))) (fun hHeld => ?_); refine with_tabW mark_tab8 mark_bits8 (fun HT_ HW_ => ?_)
            have HB := Aside0.mk (show Below w5.heap.size w5 w5.drew from below_drew (Below.refl _ _))
            generalize hgw : w5.drew = w22 at HB hHeld ⊢
            clear hgw
            refine pure_ (i := 0) (N := some 44) (v := ?_) (a' := ?_) #[true, false, false, false, false, false, false, false, false, false, false, false] rfl rfl (any_of HT_.out (by kernel_rfl)) (fun _ _ _ h => h) (Or.inl ⟨by rfl, ?_⟩) ?_ ?_
            rotate_left
            · intro w'
              go_simp
              with_reducible rfl
            rotate_left
            · simp only [Act.put, List.setIfInBounds_toArray, List.set_cons_zero, List.set_cons_succ, i64_w, i32_w]
              rfl
            refine pure_ (i := 1) (N := some 45) (v := ?_) (a' := ?_) #[true, true, false, false, false, false, false, false, false, false, false, false] rfl rfl (any_of HT_.out (by kernel_rfl)) (fun _ _ _ h => h) (Or.inl ⟨by rfl, ?_⟩) ?_ ?_
            rotate_left
            · intro w'
              go_simp
              with_reducible rfl
            rotate_left
            · simp only [Act.put, List.setIfInBounds_toArray, List.set_cons_zero, List.set_cons_succ, i64_w, i32_w]
              rfl
            refine pure_ (i := 2) (N := some 46) (v := ?_) (a' := ?_) #[true, true, true, false, false, false, false, false, false, false, false, false] rfl rfl (any_of HT_.out (by kernel_rfl)) (fun _ _ _ h => h) (Or.inl ⟨by rfl, ?_⟩) ?_ ?_
            rotate_left
            · intro w'
              go_simp
              with_reducible rfl
            rotate_left
            · simp only [Act.put, List.setIfInBounds_toArray, List.set_cons_zero, List.set_cons_succ, i64_w, i32_w]
              rfl
            refine pure_ (i := 3) (N := some 47) (v := ?_) (a' := ?_) #[true, true, true, true, false, false, false, false, false, false, false, false] rfl rfl (any_of HT_.out (by kernel_rfl)) (fun _ _ _ h => h) (Or.inl ⟨by rfl, ?_⟩) ?_ ?_
            rotate_left
            · intro w'
              go_simp
              with_reducible rfl
            rotate_left
            · simp only [Act.put, List.setIfInBounds_toArray, List.set_cons_zero, List.set_cons_succ, i64_w, i32_w]
              rfl
            refine take_ (i := 4) (N := some 48) (v := ?_) (a' := ?_) #[true, true, true, true, true, false, false, false, false, false, false, false] rfl rfl (take_ofW HT_.out HW_.out (by kernel_rfl)) (fun _ _ _ h => h) (Or.inl ⟨by rfl, ?_⟩) hHeld ?_ ?_
            rotate_left
            · rintro w' ⟨s0, s1⟩
              go_simp
              with_reducible rfl
            rotate_left
            · simp only [Act.put, List.setIfInBounds_toArray, List.set_cons_zero, List.set_cons_succ, i64_w, i32_w]
              rfl
            refine pure_ (i := 5) (N := some 49) (v := ?_) (a' := ?_) #[true, true, true, true, true, true, false, false, false, false, false, false] rfl rfl (any_of HT_.out (by kernel_rfl)) (fun _ _ _ h => h) (Or.inl ⟨by rfl, ?_⟩) ?_ ?_
            rotate_left
            · intro w'
              go_simp
              with_reducible rfl
            rotate_left
            · simp only [Act.put, List.setIfInBounds_toArray, List.set_cons_zero, List.set_cons_succ, i64_w, i32_w]
              rfl
            refine pure_ (i := 6) (N := some 50) (v := ?_) (a' := ?_) #[true, true, true, true, true, true, true, false, false, false, false, false] rfl rfl (any_of HT_.out (by kernel_rfl)) (fun _ _ _ h => h) (Or.inl ⟨by rfl, ?_⟩) ?_ ?_
            rotate_left
            · intro w'
              go_simp
              with_reducible rfl
            rotate_left
            · simp only [Act.put, List.setIfInBounds_toArray, List.set_cons_zero, List.set_cons_succ, i64_w, i32_w]
              rfl
            refine pure_ (i := 7) (N := some 51) (v := ?_) (a' := ?_) #[true, true, true, true, true, true, true, true, false, false, false, false] rfl rfl (any_of HT_.out (by kernel_rfl)) (fun _ _ _ h => h) (Or.inl ⟨by rfl, ?_⟩) ?_ ?_
            rotate_left
            · intro w'
              go_simp
              with_reducible rfl
            rotate_left
            · simp only [Act.put, List.setIfInBounds_toArray, List.set_cons_zero, List.set_cons_succ, i64_w, i32_w]
              rfl
            refine take_ (i := 8) (N := some 52) (v := ?_) (a' := ?_) #[true, true, true, true, true, true, true, true, true, false, false, false] rfl rfl (take_ofW HT_.out HW_.out (by kernel_rfl)) (fun _ _ _ h => h) (Or.inl ⟨by rfl, ?_⟩) hHeld ?_ ?_
            rotate_left
            · rintro w' ⟨s0, s1⟩
              go_simp
              with_reducible rfl
            rotate_left
            · simp only [Act.put, List.setIfInBounds_toArray, List.set_cons_zero, List.set_cons_succ, i64_w, i32_w]
              rfl
            refine one_ (i := 9) (N := some 53) #[true, true, true, true, true, true, true, true, true, true, false, false] rfl rfl (one_of HT_.out (by kernel_rfl)) (by decide) (fun K hK => ?_)
            refine value_ (v := .slice (some ⟨w22.heap.size, 0, none⟩) 2 2) (w1 := w22.alloc (.cells #[.int .i64 nd.f7, .int .i64 nd.f8] 3)) (by rfl) rfl ?_ ?_
            · (go_simp <;> first | rfl | done)
            refine hK.out _ _ (HSOK.out _ (below_step HB.out (below_alloc (Below.refl _ _) _))) (fun hHeld => ?_)
            clear hK K
            refine norm_ (a' := ?_) ?_ ?_
            rotate_left
            · show Act.put _ (some 53) _ = _
              simp only [Act.put, List.setIfInBounds_toArray, List.set_cons_zero, List.set_cons_succ, i64_w, i32_w]
              rfl
            refine one_ (i := 10) (N := some 54) #[true, true, true, true, true, true, true, true, true, true, true, false] rfl rfl (one_of HT_.out (by kernel_rfl)) (by decide) (fun K hK => ?_)
            refine Kd.R_append_rows_step (Kd.int .i64) (w0 := w5) w.heap.size (by rfl) (.tmp 44) (.tmp 53) 32 3 (.int .i64 0) 8 rfl Tryd.underlying32 (by kernel_rfl) rfl (by decide) (by omega) (.slice (some ⟨gt, 0, none⟩) m ct) (todo.take m) [nd.f7, nd.f8] (some ⟨w22.heap.size, 0, none⟩) 2 2 (fun _ => True) (fun _ => False) rfl rfl ?aO ?aR (fun _ _ h => h) (fun _ h => h.elim) ?aF ?aB ?aS ?aL ?_
            case aO => exact Kd.R_below HTD5.out (HB.out.trans (below_alloc (Below.refl _ _) _ |>.mono HB.out.size))
            case aR => exact lit2_C (heap_alloc_new w22 _)
            case aF => exact (fun _ _ => trivial)
            case aB => exact (HB.out.trans ((below_alloc (Below.refl _ _) _).mono HB.out.size)).mono HWL.out
            case aS => have := HB.out.size; have := HWL.out; simp; omega
            case aL => have := HTL.out; simp only [List.length_take]; omega
            intro v1 w6 ho hb2 hg hat
            obtain ⟨A1, c1, rfl⟩ := Kd.R_slice ho
            obtain ⟨kl, hkl⟩ : ∃ kl, kl = (todo.take m ++ [nd.f7, nd.f8]).length := ⟨_, rfl⟩
            rw [← hkl] at ho
            rw [← hkl]
            have HKL := Aside0.mk hkl
            clear hkl
            have HO := Aside0.mk ho
            have HB6 := Aside0.mk hb2
            have HG6 := Aside0.mk hg
            clear ho hb2 hg hat
            refine hK.out _ _ (HSOK6.out _ w6 (HB.out.trans ((below_alloc (Below.refl _ _) _).mono HB.out.size)) HG6.out) (fun hHeld => ?_)
            clear hK K
            refine norm_ (a' := ?_) ?_ ?_
            rotate_left
            · show Act.put _ (some 54) _ = _
              simp only [Act.put, List.setIfInBounds_toArray, List.set_cons_zero, List.set_cons_succ, i64_w, i32_w]
              rfl
            refine pure_ (i := 11) (N := some 6) (v := ?_) (a' := ?_) #[true, true, true, true, true, true, true, true, true, true, true, true] rfl rfl (any_of HT_.out (by kernel_rfl)) (fun _ _ _ h => h) (Or.inl ⟨by rfl, ?_⟩) ?_ ?_
            rotate_left
            · intro w'
              go_simp
              with_reducible rfl
            rotate_left
            · simp only [Act.put, List.setIfInBounds_toArray, List.set_cons_zero, List.set_cons_succ, i64_w, i32_w]
              rfl
            refine done_ (done_of HT_.out (by kernel_rfl)) ?_
            have HMS6 := Aside0.mk (show MarksR w6 bm (.slice (some ⟨gm, 0, none⟩) n c) (ms.set j true) from
              Kd.R_mono (Kd.R_step (Kd.R_reok (ok := fun x => some x = (Value.slice (some ⟨gm, 0, none⟩) n c).ownBlock) rfl HM5.out (fun x e => e.symm)) (fun x hx _ => by
                rw [own_some] at hx
                obtain rfl := Option.some.inj hx
                exact HB6.out.block x HGT.out.2.2)) (fun _ _ => trivial))
            have HK6 := Aside0.mk (show KB w w6 gm from ⟨⟨Nat.le_trans HK5.out.k.1 HB6.out.size, fun x hx hne hr => (HB6.out.block x hx).trans (HK5.out.k.2 x hx hne hr)⟩, HK5.out.b.trans (HB6.out.mono (Nat.zero_le _))⟩)
            have HLN := Aside0.mk (show (todo.take m ++ [nd.f7, nd.f8]).length = m + 2 from by
              have := FreeR.len HT2.out
              rw [List.length_append]
              simp only [List.length_cons, List.length_nil]
              omega)
            have HUN6 := Aside0.mk (show 2 * unm ((List.range n).map (bcell w6 gm)) + 2 = 2 * unm ((List.range n).map (bcell wr gm)) from by
              rw [MarksR.unm HMS6.out, MarksR.unm HMS.out]
              have := HUNM.out
              omega)
            clear hHeld HB
            go_wp2_with fail
            have hkm2 := HKM.out
            have hln := HLN.out
            go_roundw
            case measure =>
              have := HUN6.out
              have := HKL.out
              show 2 * _ + kl < 2 * _ + k
              omega
            case rel => exact ⟨_, _, _, _, _, rfl, (Kd.R_reads' HO.out).2.1, HO, HMS6, HDN, HK6, ⟨by have := HBD.out; have := HUNM.out; have := HKL.out; omega⟩⟩
end Go.Proofs.YtdeneoknjeegbaaDoor.P
end
section
set_option linter.unusedVariables false
set_option linter.unusedSimpArgs false
namespace Go.Proofs.YtdeneoknjeegbaaDoor.P
open Go.RowKit Go.Proofs.YtdeneoknjeegbaaDoor.Pure Go.Proofs.YtdeneoknjeegbaaDoorW.PrintWords Go.Proofs.YtdeneoknjeegbaaDoorW.PrintLast Go.Proofs.YtdeneoknjeegbaaDoorW.PrintMore
theorem blkA {w : World} {base p : Nat} {size room : Int} {vc vf : Value} {X : Nat → Prop} {cs : Cs} (h : ArenaM w base p size room vc vf X cs) : ABlk w p size room vc vf := by
  obtain ⟨rows, fr, hv⟩ := h.mem
  exact hv.blk
theorem index0_run (v0 v1 v2 v3 : Value) (w : World) : Sem.run Tryd.prog (Instr.index 95 (.agg #[v0, v1, v2, v3]) (.int .i64 0)) w = .ok v0 w := by kernel_rfl
theorem index1_run (v0 v1 v2 v3 : Value) (w : World) : Sem.run Tryd.prog (Instr.index 95 (.agg #[v0, v1, v2, v3]) (.int .i64 1)) w = .ok v1 w := by kernel_rfl
theorem index2_run (v0 v1 v2 v3 : Value) (w : World) : Sem.run Tryd.prog (Instr.index 95 (.agg #[v0, v1, v2, v3]) (.int .i64 2)) w = .ok v2 w := by kernel_rfl
theorem index3_run (v0 v1 v2 v3 : Value) (w : World) : Sem.run Tryd.prog (Instr.index 95 (.agg #[v0, v1, v2, v3]) (.int .i64 3)) w = .ok v3 w := by kernel_rfl
def NdB (w : World) (g : Nat) (r : List Value) : Prop := w.heap[g]? = some (.cells r.toArray 39 (0, 0))
theorem NdB.below {w w1 : World} {g : Nat} {r : List Value} (h : NdB w g r) (hb : Below w.heap.size w w1) : NdB w1 g r := blk_below h hb
def putN (w : World) (g : Nat) (x0 x1 x2 x3 x4 x5 x6 x7 x8 x9 : Value) : World := ((((((((((w.setCell ⟨g, 0, none⟩ x0).setCell ⟨g, 1, none⟩ x1).setCell ⟨g, 2, none⟩ x2).setCell ⟨g, 3, none⟩ x3).setCell ⟨g, 4, none⟩ x4).setCell ⟨g, 5, none⟩ x5).setCell ⟨g, 6, none⟩ x6).setCell ⟨g, 7, none⟩ x7).setCell ⟨g, 8, none⟩ x8).setCell ⟨g, 9, none⟩ x9)
theorem putN_nd {w : World} {g : Nat} {y0 y1 y2 y3 y4 y5 y6 y7 y8 y9 : Value} (h : NdB w g [y0, y1, y2, y3, y4, y5, y6, y7, y8, y9]) (x0 x1 x2 x3 x4 x5 x6 x7 x8 x9 : Value) : NdB (putN w g x0 x1 x2 x3 x4 x5 x6 x7 x8 x9) g [x0, x1, x2, x3, x4, x5, x6, x7, x8, x9] := by
  have h1 : NdB (w.setCell ⟨g, 0, none⟩ x0) g [x0, y1, y2, y3, y4, y5, y6, y7, y8, y9] := blk_set h 0 _
  have h2 : NdB ((w.setCell ⟨g, 0, none⟩ x0).setCell ⟨g, 1, none⟩ x1) g [x0, x1, y2, y3, y4, y5, y6, y7, y8, y9] := blk_set h1 1 _
  have h3 : NdB (((w.setCell ⟨g, 0, none⟩ x0).setCell ⟨g, 1, none⟩ x1).setCell ⟨g, 2, none⟩ x2) g [x0, x1, x2, y3, y4, y5, y6, y7, y8, y9] := blk_set h2 2 _
  have h4 : NdB ((((w.setCell ⟨g, 0, none⟩ x0).setCell ⟨g, 1, none⟩ x1).setCell ⟨g, 2, none⟩ x2).setCell ⟨g, 3, none⟩ x3) g [x0, x1, x2, x3, y4, y5, y6, y7, y8, y9] := blk_set h3 3 _
  have h5 : NdB (((((w.setCell ⟨g, 0, none⟩ x0).setCell ⟨g, 1, none⟩ x1).setCell ⟨g, 2, none⟩ x2).setCell ⟨g, 3, none⟩ x3).setCell ⟨g, 4, none⟩ x4) g [x0, x1, x2, x3, x4, y5, y6, y7, y8, y9] := blk_set h4 4 _
  have h6 : NdB ((((((w.setCell ⟨g, 0, none⟩ x0).setCell ⟨g, 1, none⟩ x1).setCell ⟨g, 2, none⟩ x2).setCell ⟨g, 3, none⟩ x3).setCell ⟨g, 4, none⟩ x4).setCell ⟨g, 5, none⟩ x5) g [x0, x1, x2, x3, x4, x5, y6, y7, y8, y9] := blk_set h5 5 _
  have h7 : NdB (((((((w.setCell ⟨g, 0, none⟩ x0).setCell ⟨g, 1, none⟩ x1).setCell ⟨g, 2, none⟩ x2).setCell ⟨g, 3, none⟩ x3).setCell ⟨g, 4, none⟩ x4).setCell ⟨g, 5, none⟩ x5).setCell ⟨g, 6, none⟩ x6) g [x0, x1, x2, x3, x4, x5, x6, y7, y8, y9] := blk_set h6 6 _
  have h8 : NdB ((((((((w.setCell ⟨g, 0, none⟩ x0).setCell ⟨g, 1, none⟩ x1).setCell ⟨g, 2, none⟩ x2).setCell ⟨g, 3, none⟩ x3).setCell ⟨g, 4, none⟩ x4).setCell ⟨g, 5, none⟩ x5).setCell ⟨g, 6, none⟩ x6).setCell ⟨g, 7, none⟩ x7) g [x0, x1, x2, x3, x4, x5, x6, x7, y8, y9] := blk_set h7 7 _
  have h9 : NdB (((((((((w.setCell ⟨g, 0, none⟩ x0).setCell ⟨g, 1, none⟩ x1).setCell ⟨g, 2, none⟩ x2).setCell ⟨g, 3, none⟩ x3).setCell ⟨g, 4, none⟩ x4).setCell ⟨g, 5, none⟩ x5).setCell ⟨g, 6, none⟩ x6).setCell ⟨g, 7, none⟩ x7).setCell ⟨g, 8, none⟩ x8) g [x0, x1, x2, x3, x4, x5, x6, x7, x8, y9] := blk_set h8 8 _
  have h10 : NdB ((((((((((w.setCell ⟨g, 0, none⟩ x0).setCell ⟨g, 1, none⟩ x1).setCell ⟨g, 2, none⟩ x2).setCell ⟨g, 3, none⟩ x3).setCell ⟨g, 4, none⟩ x4).setCell ⟨g, 5, none⟩ x5).setCell ⟨g, 6, none⟩ x6).setCell ⟨g, 7, none⟩ x7).setCell ⟨g, 8, none⟩ x8).setCell ⟨g, 9, none⟩ x9) g [x0, x1, x2, x3, x4, x5, x6, x7, x8, x9] := blk_set h9 9 _
  exact h10
theorem putN_below {w0 w : World} {g base : Nat} (h : Below base w0 w) (hg : base ≤ g) (x0 x1 x2 x3 x4 x5 x6 x7 x8 x9 : Value) : Below base w0 (putN w g x0 x1 x2 x3 x4 x5 x6 x7 x8 x9) :=
  Below.setCell (Below.setCell (Below.setCell (Below.setCell (Below.setCell (Below.setCell (Below.setCell (Below.setCell (Below.setCell (Below.setCell h hg _) hg _) hg _) hg _) hg _) hg _) hg _) hg _) hg _) hg _
theorem putN_far {w : World} {g k : Nat} (hne : k ≠ g) (x0 x1 x2 x3 x4 x5 x6 x7 x8 x9 : Value) : (putN w g x0 x1 x2 x3 x4 x5 x6 x7 x8 x9).heap[k]? = w.heap[k]? := by
  unfold putN
  rw [Below.heap_setCell _ ⟨g, 9, none⟩ _ k hne, Below.heap_setCell _ ⟨g, 8, none⟩ _ k hne, Below.heap_setCell _ ⟨g, 7, none⟩ _ k hne, Below.heap_setCell _ ⟨g, 6, none⟩ _ k hne, Below.heap_setCell _ ⟨g, 5, none⟩ _ k hne, Below.heap_setCell _ ⟨g, 4, none⟩ _ k hne, Below.heap_setCell _ ⟨g, 3, none⟩ _ k hne, Below.heap_setCell _ ⟨g, 2, none⟩ _ k hne, Below.heap_setCell _ ⟨g, 1, none⟩ _ k hne, Below.heap_setCell _ ⟨g, 0, none⟩ _ k hne]
theorem NdB.cells {w : World} {g : Nat} {y0 y1 y2 y3 y4 y5 y6 y7 y8 y9 : Value} (h : NdB w g [y0, y1, y2, y3, y4, y5, y6, y7, y8, y9]) : w.cell? ⟨g, 0, none⟩ = some y0 ∧ w.cell? ⟨g, 1, none⟩ = some y1 ∧ w.cell? ⟨g, 2, none⟩ = some y2 ∧ w.cell? ⟨g, 3, none⟩ = some y3 ∧ w.cell? ⟨g, 4, none⟩ = some y4 ∧ w.cell? ⟨g, 5, none⟩ = some y5 ∧ w.cell? ⟨g, 6, none⟩ = some y6 ∧ w.cell? ⟨g, 7, none⟩ = some y7 ∧ w.cell? ⟨g, 8, none⟩ = some y8 ∧ w.cell? ⟨g, 9, none⟩ = some y9 :=
  ⟨blk_cell h 0, blk_cell h 1, blk_cell h 2, blk_cell h 3, blk_cell h 4, blk_cell h 5, blk_cell h 6, blk_cell h 7, blk_cell h 8, blk_cell h 9⟩
theorem NdB.frozen {w : World} {g : Nat} {r : List Value} (h : NdB w g r) : w.frozen? ⟨g, 0, none⟩ = false ∧ w.frozen? ⟨g, 1, none⟩ = false ∧ w.frozen? ⟨g, 2, none⟩ = false ∧ w.frozen? ⟨g, 3, none⟩ = false ∧ w.frozen? ⟨g, 4, none⟩ = false ∧ w.frozen? ⟨g, 5, none⟩ = false ∧ w.frozen? ⟨g, 6, none⟩ = false ∧ w.frozen? ⟨g, 7, none⟩ = false ∧ w.frozen? ⟨g, 8, none⟩ = false ∧ w.frozen? ⟨g, 9, none⟩ = false :=
  ⟨blk_frozen h 0, blk_frozen h 1, blk_frozen h 2, blk_frozen h 3, blk_frozen h 4, blk_frozen h 5, blk_frozen h 6, blk_frozen h 7, blk_frozen h 8, blk_frozen h 9⟩
def zeroR : List Value := [.bool false, .slice none 0 0, .slice none 0 0, .int .i64 0, .int .i64 0, .slice none 0 0, .int .i64 0, .int .i64 0, .int .i64 0, .slice none 0 0]
set_option maxRecDepth 100000 in
theorem results_nodeA (W : World) (g : Nat) {y0 y1 y2 y3 y4 y5 y6 y7 y8 y9 : Value} (b : Bool) (h : NdB W g [y0, y1, y2, y3, y4, y5, y6, y7, y8, y9]) (tm : Array Value) (h4 : tm[4]?.getD undef = .pointer (some ⟨g, 0, none⟩)) (h5 : tm[5]?.getD undef = .bool b) : (results Tryd.f17 tm).run Tryd.prog W = .ok (.tuple #[.agg #[y0, y1, y2, y3, y4, y5, y6, y7, y8, y9], .bool b]) W := by
  obtain ⟨c0, c1, c2, c3, c4, c5, c6, c7, c8, c9⟩ := h.cells
  simp [results, Tryd.results17, go_sem, h4, h5, c0, c1, c2, c3, c4, c5, c6, c7, c8, c9]
def NodeV (w' : World) (Y : Nat → Prop) (o : Option Nd) (e : Ending) : Prop := match o with
  | none => e = .returned (.tuple #[.agg zeroR.toArray, .bool false])
  | some n => ∃ (A1 A2 A5 A9 : Option Addr) (c1 c2 c5 c9 : Nat), e = .returned (.tuple #[.agg #[.bool n.f0, .slice A1 n.f1.length c1, .slice A2 n.f2.length c2, .int .i64 n.f3, .int .i64 n.f4, .slice A5 n.f5.length c5, .int .i64 n.f6, .int .i64 n.f7, .int .i64 n.f8, .slice A9 n.f9.length c9], .bool true]) ∧
    BX w' Y (.slice A1 n.f1.length c1) n.f1 ∧ BX w' Y (.slice A2 n.f2.length c2) n.f2 ∧ BX w' Y (.slice A5 n.f5.length c5) n.f5 ∧ BX w' Y (.slice A9 n.f9.length c9) n.f9
def NdLen (n : Nd) : Prop := n.f1.length ≤ 65535 ∧ n.f2.length ≤ 65535 ∧ n.f5.length ≤ 65535 ∧ n.f9.length ≤ 65535
set_option maxHeartbeats 8000000 in
set_option maxRecDepth 100000 in
theorem nodeA_calls {w : World} {base p : Nat} {size room : Int} {vc vf : Value} {X : Nat → Prop} {cs : Cs} (h : ArenaM w base p size room vc vf X cs) (i : Int) (hlen : ∀ n, nodeAt cs i = some n → NdLen n) :
    Calls Tryd.prog 17 #[.pointer (some ⟨p, 0, none⟩), .int .i64 i] w fun e w' => NodeV w' (fun k => X k ∨ w.heap.size ≤ k) (nodeAt cs i) e ∧ Below w.heap.size w w' := by
  have HM := Aside0.mk h
  have HLEN := Aside0.mk hlen
  clear h hlen
  go_enter Tryd.func17, Tryd.ntmps17
  go_wp2_with fail
  obtain ⟨W1, hW1⟩ : ∃ W1, W1 = w.alloc (.cells zeroR.toArray 39) := ⟨_, rfl⟩
  change Calls _ _ _ (w.alloc (.cells zeroR.toArray 39)) _
  rw [← hW1]
  have hB1 : Below w.heap.size w W1 := by rw [hW1]; exact below_alloc (Below.refl _ _) _
  have h4 : NdB W1 w.heap.size zeroR := by rw [hW1]; exact heap_alloc_new w _
  have hq1 : w.heap.size < W1.heap.size := blk_lt h4
  have HM1 := Aside0.mk (HM.out.below hB1)
  have HB1 := Aside0.mk hB1
  obtain ⟨q, hq⟩ : ∃ q, q = w.heap.size := ⟨_, rfl⟩
  rw [← hq] at h4
  rw [← hq]
  have H4 := Aside0.mk h4
  have HQ := Aside0.mk hq
  have HSEP := Aside0.mk (show ∀ k, X k → k < w.heap.size from fun k hk => by
    obtain ⟨rows, fr, hv⟩ := HM.out.mem
    exact (hv.sep k hk).1)
  clear hW1 hB1 h4 hq hq1
  refine (atA_calls HM1.out i).mono ?_
  rintro e w' ⟨⟨v, rfl, hv⟩, rfl⟩
  cases ho : nodeAt cs i with
  | none =>
    rw [ho] at hv
    obtain rfl : v = .pointer none := hv
    have HO := Aside0.mk ho
    clear ho
    obtain ⟨z0, z1, z2, z3, z4, z5, z6, z7, z8, z9⟩ := NdB.cells H4.out
    obtain ⟨f0, f1, f2, f3, f4, f5, f6, f7, f8, f9⟩ := H4.out.frozen
    go_wp2_with fail
    refine bodyPost_ret (results_nodeA _ q false (putN_nd H4.out _ _ _ _ _ _ _ _ _ _) _ rfl rfl) rfl ⟨?_, putN_below HB1.out (by rw [HQ.out]; exact Nat.le_refl _) _ _ _ _ _ _ _ _ _ _⟩
    rw [HO.out]
    rfl
  | some n =>
    rw [ho] at hv
    obtain ⟨g, d, r, rfl, ⟨A1, A2, A5, A9, c1, c2, c5, c9, hr, b1, b2, b5, b9⟩, hc⟩ := hv
    subst hr
    have n0 := hc 0 _ rfl
    have n1 := hc 1 _ rfl
    have n2 := hc 2 _ rfl
    have n3 := hc 3 _ rfl
    have n4 := hc 4 _ rfl
    have n5 := hc 5 _ rfl
    have n6 := hc 6 _ rfl
    have n7 := hc 7 _ rfl
    have n8 := hc 8 _ rfl
    have n9 := hc 9 _ rfl
    simp only [Nat.add_zero] at n0
    have HLN := Aside0.mk (HLEN.out n ho)
    have HO := Aside0.mk ho
    have HBs := Aside0.mk (And.intro b1 (And.intro b2 (And.intro b5 b9)))
    clear hc b1 b2 b5 b9 ho
    go_wp2_with fail
    obtain ⟨b, hb⟩ : ∃ b, b = W1.heap.size := ⟨_, rfl⟩
    obtain ⟨W2, hW2⟩ : ∃ W2, W2 = W1.alloc (.cells #[.bool n.f0, .slice A1 n.f1.length c1, .slice A2 n.f2.length c2, .int .i64 n.f3, .int .i64 n.f4, .slice A5 n.f5.length c5, .int .i64 n.f6, .int .i64 n.f7, .int .i64 n.f8, .slice A9 n.f9.length c9] 39) := ⟨_, rfl⟩
    rw [← hb, ← hW2]
    have hB2 : Below W1.heap.size W1 W2 := by rw [hW2]; exact below_alloc (Below.refl _ _) _
    have hN2 : NdB W2 b [.bool n.f0, .slice A1 n.f1.length c1, .slice A2 n.f2.length c2, .int .i64 n.f3, .int .i64 n.f4, .slice A5 n.f5.length c5, .int .i64 n.f6, .int .i64 n.f7, .int .i64 n.f8, .slice A9 n.f9.length c9] := by rw [hW2, hb]; exact heap_alloc_new W1 _
    have hqb : q < b := by rw [hb]; exact blk_lt H4.out
    obtain ⟨F, hF⟩ : ∃ F : Nat → Prop, F = fun k => (X k ∨ w.heap.size ≤ k) ∧ k ≠ b ∧ k ≠ q := ⟨_, rfl⟩
    have HQB := Aside0.mk (show q ≠ b by omega)
    have HBB := Aside0.mk (show w.heap.size ≤ b by have := HB1.out.size; omega)
    have HFB := Aside0.mk (show (∀ k, F k → k ≠ b) ∧ ∀ k, w.heap.size ≤ k ∧ b < k ∧ q < k → F k from ⟨fun k hk => by rw [hF] at hk; exact hk.2.1, fun k hk => by rw [hF]; exact ⟨.inr hk.1, by omega, by omega⟩⟩)
    have HFQ := Aside0.mk (show ∀ k, F k → k ≠ q from fun k hk => by rw [hF] at hk; exact hk.2.2)
    have HFX := Aside0.mk (show ∀ k, F k → X k ∨ w.heap.size ≤ k from fun k hk => by rw [hF] at hk; exact hk.1)
    have hXF : ∀ k, X k → F k := fun k hk => by
      have := HSEP.out k hk
      have := HQ.out
      have := HB1.out.size
      rw [hF]
      exact ⟨.inl hk, by omega, by omega⟩
    have HND := Aside0.mk hN2
    have HF1 := Aside0.mk (Kd.V_mono (Kd.V_below HBs.out.1 hB2) hXF)
    have HF2 := Aside0.mk (Kd.V_mono (Kd.V_below HBs.out.2.1 hB2) hXF)
    have HF5 := Aside0.mk (Kd.V_mono (Kd.V_below HBs.out.2.2.1 hB2) hXF)
    have HF9 := Aside0.mk (Kd.V_mono (Kd.V_below HBs.out.2.2.2 hB2) hXF)
    have HZ := Aside0.mk (H4.out.below hB2)
    have HB := Aside0.mk (below_step HB1.out hB2)
    clear hN2 hB2 hW2 hb hF hXF HBs hqb n0 n1 n2 n3 n4 n5 n6 n7 n8 n9
    go_loopw [24] (fun v24 wr => ∃ (k : Nat) (A1 A2 A5 A9 : Option Addr) (c1 c2 c5 c9 : Nat), k ≤ 4 ∧ v24 = .int .i64 (k : Int) ∧ Aside0 (NdB wr b [.bool n.f0, .slice A1 n.f1.length c1, .slice A2 n.f2.length c2, .int .i64 n.f3, .int .i64 n.f4, .slice A5 n.f5.length c5, .int .i64 n.f6, .int .i64 n.f7, .int .i64 n.f8, .slice A9 n.f9.length c9]) ∧ Aside0 (BX wr F (.slice A1 n.f1.length c1) n.f1) ∧ Aside0 (BX wr F (.slice A2 n.f2.length c2) n.f2) ∧ Aside0 (BX wr F (.slice A5 n.f5.length c5) n.f5) ∧ Aside0 (BX wr F (.slice A9 n.f9.length c9) n.f9) ∧ Aside0 (NdB wr q zeroR) ∧ Aside0 (Below w.heap.size w wr)) (fun v24 _ => 4 - (intOf v24).toNat)
    case atStart => exact ⟨0, A1, A2, A5, A9, c1, c2, c5, c9, by omega, rfl, HND, HF1, HF2, HF5, HF9, HZ, HB⟩
    case round =>
      clear HND HF1 HF2 HF5 HF9 HZ HB
      obtain ⟨k, A1, A2, A5, A9, c1, c2, c5, c9, hk, rfl, HND, HF1, HF2, HF5, HF9, HZ, HB⟩ := hrel
      obtain ⟨n0, n1, n2, n3, n4, n5, n6, n7, n8, n9⟩ := NdB.cells HND.out
      by_cases hlt : k < 4
      · obtain rfl | rfl | rfl | rfl : k = 0 ∨ k = 1 ∨ k = 2 ∨ k = 3 := by omega
        · go_wp2_with ((first | rw [index0_run] | rw [index1_run] | rw [index2_run] | rw [index3_run]); go_upon)
          refine (slices_Clone_byte_byte.calls A1 c1 n.f1 n.f1 wr (Kd.V_reads' HF1.out).2.2 (Kd.V_reads' HF1.out).2.1 (if_pos (by have := HLN.out; unfold NdLen at this; omega))).mono ?_
          rintro e w3 ⟨v, rfl, hV, hB2⟩
          obtain ⟨B, d, rfl⟩ := Kd.R_slice hV
          have hn2 := HND.out.below hB2
          have hf := blk_frozen hn2 1
          have hcj := blk_cell hn2 1
          simp at hcj
          have HN2 := Aside0.mk hn2
          have HV := Aside0.mk hV
          have HB2 := Aside0.mk hB2
          clear hn2 hV hB2
          go_wp2_with fail
          have b1 := HF1.out
          have b2 := HF2.out
          have b5 := HF5.out
          have b9 := HF9.out
          have hV := HV.out
          have hB2 := HB2.out
          have hfb : ∀ k, F k → k ≠ b := HFB.out.1
          have hFN : ∀ k, wr.heap.size ≤ k → F k := fun k hk => HFB.out.2 k (by have := HB.out.size; have := blk_lt HND.out; have := blk_lt HZ.out; omega)
          go_roundw
          case measure => simp [intOf]
          case rel => exact ⟨1, B, A2, A5, A9, d, c2, c5, c9, by omega, rfl, ⟨blk_set HN2.out 1 _⟩, ⟨(Kd.V_far (p := ⟨b, 1, none⟩) (Kd.V_mono (Kd.R_V (Kd.R_bound hV)) (fun k hk => hFN k hk.2.1)) hfb _)⟩, ⟨(Kd.V_far (p := ⟨b, 1, none⟩) (Kd.V_below b2 hB2) hfb _)⟩, ⟨(Kd.V_far (p := ⟨b, 1, none⟩) (Kd.V_below b5 hB2) hfb _)⟩, ⟨(Kd.V_far (p := ⟨b, 1, none⟩) (Kd.V_below b9 hB2) hfb _)⟩, ⟨(blk_far (HZ.out.below hB2) (p := ⟨b, 1, none⟩) HQB.out _)⟩, ⟨Below.setCell (below_step HB.out hB2) (by have := HBB.out; show w.heap.size ≤ b; omega) _⟩⟩
        · go_wp2_with ((first | rw [index0_run] | rw [index1_run] | rw [index2_run] | rw [index3_run]); go_upon)
          refine (slices_Clone_byte_byte.calls A2 c2 n.f2 n.f2 wr (Kd.V_reads' HF2.out).2.2 (Kd.V_reads' HF2.out).2.1 (if_pos (by have := HLN.out; unfold NdLen at this; omega))).mono ?_
          rintro e w3 ⟨v, rfl, hV, hB2⟩
          obtain ⟨B, d, rfl⟩ := Kd.R_slice hV
          have hn2 := HND.out.below hB2
          have hf := blk_frozen hn2 2
          have hcj := blk_cell hn2 2
          simp at hcj
          have HN2 := Aside0.mk hn2
          have HV := Aside0.mk hV
          have HB2 := Aside0.mk hB2
          clear hn2 hV hB2
          go_wp2_with fail
          have b1 := HF1.out
          have b2 := HF2.out
          have b5 := HF5.out
          have b9 := HF9.out
          have hV := HV.out
          have hB2 := HB2.out
          have hfb : ∀ k, F k → k ≠ b := HFB.out.1
          have hFN : ∀ k, wr.heap.size ≤ k → F k := fun k hk => HFB.out.2 k (by have := HB.out.size; have := blk_lt HND.out; have := blk_lt HZ.out; omega)
          go_roundw
          case measure => simp [intOf]
          case rel => exact ⟨2, A1, B, A5, A9, c1, d, c5, c9, by omega, rfl, ⟨blk_set HN2.out 2 _⟩, ⟨(Kd.V_far (p := ⟨b, 2, none⟩) (Kd.V_below b1 hB2) hfb _)⟩, ⟨(Kd.V_far (p := ⟨b, 2, none⟩) (Kd.V_mono (Kd.R_V (Kd.R_bound hV)) (fun k hk => hFN k hk.2.1)) hfb _)⟩, ⟨(Kd.V_far (p := ⟨b, 2, none⟩) (Kd.V_below b5 hB2) hfb _)⟩, ⟨(Kd.V_far (p := ⟨b, 2, none⟩) (Kd.V_below b9 hB2) hfb _)⟩, ⟨(blk_far (HZ.out.below hB2) (p := ⟨b, 2, none⟩) HQB.out _)⟩, ⟨Below.setCell (below_step HB.out hB2) (by have := HBB.out; show w.heap.size ≤ b; omega) _⟩⟩
        · go_wp2_with ((first | rw [index0_run] | rw [index1_run] | rw [index2_run] | rw [index3_run]); go_upon)
          refine (slices_Clone_byte_byte.calls A5 c5 n.f5 n.f5 wr (Kd.V_reads' HF5.out).2.2 (Kd.V_reads' HF5.out).2.1 (if_pos (by have := HLN.out; unfold NdLen at this; omega))).mono ?_
          rintro e w3 ⟨v, rfl, hV, hB2⟩
          obtain ⟨B, d, rfl⟩ := Kd.R_slice hV
          have hn2 := HND.out.below hB2
          have hf := blk_frozen hn2 5
          have hcj := blk_cell hn2 5
          simp at hcj
          have HN2 := Aside0.mk hn2
          have HV := Aside0.mk hV
          have HB2 := Aside0.mk hB2
          clear hn2 hV hB2
          go_wp2_with fail
          have b1 := HF1.out
          have b2 := HF2.out
          have b5 := HF5.out
          have b9 := HF9.out
          have hV := HV.out
          have hB2 := HB2.out
          have hfb : ∀ k, F k → k ≠ b := HFB.out.1
          have hFN : ∀ k, wr.heap.size ≤ k → F k := fun k hk => HFB.out.2 k (by have := HB.out.size; have := blk_lt HND.out; have := blk_lt HZ.out; omega)
          go_roundw
          case measure => simp [intOf]
          case rel => exact ⟨3, A1, A2, B, A9, c1, c2, d, c9, by omega, rfl, ⟨blk_set HN2.out 5 _⟩, ⟨(Kd.V_far (p := ⟨b, 5, none⟩) (Kd.V_below b1 hB2) hfb _)⟩, ⟨(Kd.V_far (p := ⟨b, 5, none⟩) (Kd.V_below b2 hB2) hfb _)⟩, ⟨(Kd.V_far (p := ⟨b, 5, none⟩) (Kd.V_mono (Kd.R_V (Kd.R_bound hV)) (fun k hk => hFN k hk.2.1)) hfb _)⟩, ⟨(Kd.V_far (p := ⟨b, 5, none⟩) (Kd.V_below b9 hB2) hfb _)⟩, ⟨(blk_far (HZ.out.below hB2) (p := ⟨b, 5, none⟩) HQB.out _)⟩, ⟨Below.setCell (below_step HB.out hB2) (by have := HBB.out; show w.heap.size ≤ b; omega) _⟩⟩
        · go_wp2_with ((first | rw [index0_run] | rw [index1_run] | rw [index2_run] | rw [index3_run]); go_upon)
          refine (slices_Clone_byte_byte.calls A9 c9 n.f9 n.f9 wr (Kd.V_reads' HF9.out).2.2 (Kd.V_reads' HF9.out).2.1 (if_pos (by have := HLN.out; unfold NdLen at this; omega))).mono ?_
          rintro e w3 ⟨v, rfl, hV, hB2⟩
          obtain ⟨B, d, rfl⟩ := Kd.R_slice hV
          have hn2 := HND.out.below hB2
          have hf := blk_frozen hn2 9
          have hcj := blk_cell hn2 9
          simp at hcj
          have HN2 := Aside0.mk hn2
          have HV := Aside0.mk hV
          have HB2 := Aside0.mk hB2
          clear hn2 hV hB2
          go_wp2_with fail
          have b1 := HF1.out
          have b2 := HF2.out
          have b5 := HF5.out
          have b9 := HF9.out
          have hV := HV.out
          have hB2 := HB2.out
          have hfb : ∀ k, F k → k ≠ b := HFB.out.1
          have hFN : ∀ k, wr.heap.size ≤ k → F k := fun k hk => HFB.out.2 k (by have := HB.out.size; have := blk_lt HND.out; have := blk_lt HZ.out; omega)
          go_roundw
          case measure => simp [intOf]
          case rel => exact ⟨4, A1, A2, A5, B, c1, c2, c5, d, by omega, rfl, ⟨blk_set HN2.out 9 _⟩, ⟨(Kd.V_far (p := ⟨b, 9, none⟩) (Kd.V_below b1 hB2) hfb _)⟩, ⟨(Kd.V_far (p := ⟨b, 9, none⟩) (Kd.V_below b2 hB2) hfb _)⟩, ⟨(Kd.V_far (p := ⟨b, 9, none⟩) (Kd.V_below b5 hB2) hfb _)⟩, ⟨(Kd.V_far (p := ⟨b, 9, none⟩) (Kd.V_mono (Kd.R_V (Kd.R_bound hV)) (fun k hk => hFN k hk.2.1)) hfb _)⟩, ⟨(blk_far (HZ.out.below hB2) (p := ⟨b, 9, none⟩) HQB.out _)⟩, ⟨Below.setCell (below_step HB.out hB2) (by have := HBB.out; show w.heap.size ≤ b; omega) _⟩⟩
      · obtain rfl : k = 4 := by omega
        obtain ⟨f0, f1, f2, f3, f4, f5, f6, f7, f8, f9⟩ := HZ.out.frozen
        obtain ⟨z0, z1, z2, z3, z4, z5, z6, z7, z8, z9⟩ := NdB.cells HZ.out
        go_wp2_with fail
        refine bodyPost_ret (results_nodeA _ q true (putN_nd HZ.out _ _ _ _ _ _ _ _ _ _) _ rfl rfl) rfl ⟨?_, putN_below HB.out (by rw [HQ.out]; exact Nat.le_refl _) _ _ _ _ _ _ _ _ _ _⟩
        rw [HO.out]
        have hY : ∀ (v : Value) (l : List Int), BX wr F v l → BX (putN wr q (.bool n.f0) (.slice A1 n.f1.length c1) (.slice A2 n.f2.length c2) (.int .i64 n.f3) (.int .i64 n.f4) (.slice A5 n.f5.length c5) (.int .i64 n.f6) (.int .i64 n.f7) (.int .i64 n.f8) (.slice A9 n.f9.length c9)) (fun k => X k ∨ w.heap.size ≤ k) v l := fun v l hv =>
          Kd.V_mono (Kd.V_step hv (fun k hk _ => putN_far (HFQ.out k hk) _ _ _ _ _ _ _ _ _ _)) HFX.out
        exact ⟨A1, A2, A5, A9, c1, c2, c5, c9, rfl, hY _ _ HF1.out, hY _ _ HF2.out, hY _ _ HF5.out, hY _ _ HF9.out⟩
end Go.Proofs.YtdeneoknjeegbaaDoor.P
end
