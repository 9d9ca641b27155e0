/- Lemmas of this claim, part 18. -/
import Derived.Test.YtdeneoknjeegbaaDoorPartArenaLives16
import Derived.Test.YtdeneoknjeegbaaDoorPartArenaLives17
section
set_option linter.unusedVariables false
set_option linter.unusedSimpArgs false
namespace Go.Proofs.YtdeneoknjeegbaaDoor.P
open Go.RowKit Go.Proofs.YtdeneoknjeegbaaDoorW.PrintWords Go.Proofs.YtdeneoknjeegbaaDoorW.PrintLast Go.Proofs.YtdeneoknjeegbaaDoorW.PrintMore
def rsweep_T9 : Bool × List (List Nat × List Nat) := (true, [([], []), ([], []), ([1], [1]), ([2], [2]), ([3], [3]), ([], []), ([4, 5], [4, 5]), ([6], [6]), ([7], [7]), ([], []), ([9], [9]), ([10], [10]), ([11], [11]), ([], []), ([12, 13], [12, 13]), ([14], [14]), ([15], [15]), ([8, 16], [8, 16]), ([0, 17], [0, 17]), ([18, 18, 0, 1, 2, 3, 4, 5, 6, 7, 8, 9, 10, 11, 12, 13, 14, 15, 16, 17, 18], [0, 18])])
def rsweep_B9 : List Nat := [0, 0, 2, 6, 14, 0, 62, 126, 254, 0, 512, 1536, 3584, 0, 15872, 32256, 65024, 131070, 262143, 524287]
theorem rsweep_tab9 : rtab .any (opsOf Tryd.f41 9) = rsweep_T9 := by kernel_rfl
theorem rsweep_bits9 : waitsOk rsweep_T9.2 rsweep_B9 = true := by kernel_rfl
theorem lit0i_R (w : World) : FreeR (w.alloc (.cells #[] 3)) w.heap.size (.slice (some ⟨w.heap.size, 0, none⟩) 0 0) [] := by
  refine ⟨fun _ _ => trivial, [], ?_, Kd.reps_scalar ([] : List Int)⟩
  have h2 := World.ownsRow_lit (base := w.heap.size) (e := 3) (size := 1) w #[] 0 (Nat.le_refl _) (by decide) (by rfl)
  exact h2
theorem RefM.clear {w w1 : World} {base q : Nat} {size most : Int} {vl : Value} {X : Nat → Prop} {rows : List (List Value)} {cs : Cs} (h : RefM w base q size most vl X cs) (hv : RefV w base q size most vl X rows cs) (j : Nat) (hR : RowsR w1 base vl (rows.set j node0)) (hg : w.grownBy w1 vl.ownBlock) : RefM w1 base q size most vl X (cs.set j none) := by
  have hqv : some q ≠ vl.ownBlock := Kd.R_ne hv.cells hv.blk (by decide)
  have hXs : ∀ k, X k → k < w.heap.size → w1.heap[k]? = w.heap[k]? := fun k hx hl => hg.block k hl (fun e => (hv.sep k hx).2 (.inr e))
  refine ⟨⟨_, (hg.block q hv.blk.lt hqv).trans hv.blk, hR, by rw [List.length_set, List.length_set]; exact hv.len, fun i o r hi hro => ?_, fun k hx => ⟨Nat.lt_of_lt_of_le (hv.sep k hx).1 hg.size, (hv.sep k hx).2⟩⟩, h.hb, h.hs, h.hr, by rw [List.length_set]; exact h.hl⟩
  by_cases hij : i = j
  · subst hij
    have hlt : i < cs.length := by
      have := (List.getElem?_eq_some_iff.1 hi).1
      rwa [List.length_set] at this
    rw [List.getElem?_set_self hlt] at hi
    rw [List.getElem?_set_self (by rw [hv.len]; exact hlt)] at hro
    obtain rfl := Option.some.inj hi
    obtain rfl := Option.some.inj hro
    exact rfl
  · rw [List.getElem?_set_ne (Ne.symm hij)] at hi
    rw [List.getElem?_set_ne (Ne.symm hij)] at hro
    exact (hv.row i o r hi hro).step hXs (fun _ h => h)
theorem nd0_one : ∀ q ∈ node0, q.oneCell' = true := by
  intro q hq
  simp only [node0, List.mem_cons, List.not_mem_nil, or_false] at hq
  rcases hq with rfl | rfl | rfl | rfl | rfl | rfl | rfl | rfl | rfl | rfl <;> rfl
structure RwI (w wr : World) (base q gm n : Nat) (size most : Int) (vl : Value) (X : Nat → Prop) (ms : List Bool) (cs' : Cs) : Prop where
  m : RefM wr base q size most vl X cs'
  k : Kept w wr (OwnQ q vl)
  b : Below base w wr
  ms : MarksR wr w.heap.size (.slice (some ⟨gm, 0, none⟩) n n) ms
set_option maxHeartbeats 8000000 in
set_option maxRecDepth 100000 in
theorem rsweep_calls {w : World} {base q : Nat} {size most : Int} {vl : Value} {X : Nat → Prop} {cs : Cs} (h : RefM w base q size most vl X cs) (A : Option Addr) (cr : Nat) (roots : List Int) (hr : Kd.V (Kd.int .i64) 3 w 0 (fun k => k < w.heap.size) (.slice A roots.length cr) roots) (hrn : roots.length ≤ 4294967296) :
    Calls Tryd.prog 41 #[.pointer (some ⟨q, 0, none⟩), .slice A roots.length cr] w fun e w' => ∃ ms, Dfs cs roots [] ms ∧ e = .returned (.int .i64 ((sweepS ms cs cs.length).2 : Int)) ∧ RefP w w' base q size most vl X (sweepS ms cs cs.length).1 := by
  have HM := Aside0.mk h
  obtain ⟨rows, hv⟩ := h.mem
  obtain ⟨Al, cl, hvl⟩ := Kd.R_slice hv.cells
  obtain ⟨n, hn⟩ : ∃ n, n = rows.length := ⟨_, rfl⟩
  have HN := Aside0.mk (show n = cs.length ∧ n ≤ 4194304 from ⟨hn.trans hv.len, by have := hv.len; have := h.hl; have := h.hr; omega⟩)
  have HOL := Aside0.mk (show (∀ k, OwnQ q vl k → k < w.heap.size) ∧ ∀ k, X k → k < w.heap.size from ⟨hv.own_lt, fun k hk => (hv.sep k hk).1⟩)
  have HBW := Aside0.mk h.base_le
  rw [← hn] at hvl
  have HVL := Aside0.mk hvl
  have hqb := h.qblk
  rw [hvl] at hqb
  have HQ := Aside0.mk hqb
  obtain ⟨k0, k1, k2⟩ := hqb.cells
  obtain ⟨w1, hmk, hb1, hlt1, hms1⟩ := make_bools w n (by have := HN.out; omega)
  obtain ⟨gm, hgm⟩ : ∃ gm, gm = w.heap.size := ⟨_, rfl⟩
  rw [← hgm] at hmk hms1
  have HGM := Aside0.mk hgm
  have HB1 := Aside0.mk hb1
  have HMS1 := Aside0.mk hms1
  have HW1L := Aside0.mk hlt1
  have HRN := Aside0.mk hrn
  have HX := Aside0.mk (show Kd.C (Kd.int .i64) (w1.alloc (.cells #[] 3)) A roots.length roots from (Kd.V_reads' (Kd.V_below (Kd.V_below hr hb1) (by have := below_alloc (Below.refl w1.heap.size w1) (.cells #[] 3); exact this))).2.2)
  have HL0 := Aside0.mk (lit0i_R w1)
  obtain ⟨b1, hb1e⟩ : ∃ b1, b1 = w1.heap.size := ⟨_, rfl⟩
  rw [← hb1e] at HL0
  have HB1E := Aside0.mk hb1e
  clear h hr hv hvl hn hqb hrn hb1 hms1 hgm hlt1
  go_enter Tryd.func41, Tryd.ntmps41
  go_wp2_with ((with_reducible refine gate_builtin (b := .append) (xs := #[.tmp 16, .tmp 17]) rfl ?_); go_must (at_builtin; rw [← hb1e]; refine Kd.R_append_rows (Kd.int .i64) (w0 := w1) b1 rfl (.tmp 16) (.tmp 17) 32 3 (.int .i64 0) 8 rfl Tryd.underlying32 (by kernel_rfl) rfl (by decide) (by omega) (.slice (some ⟨b1, 0, none⟩) 0 0) [] roots A roots.length cr (fun _ => True) (fun _ => False) rfl rfl HL0.out HX.out (fun _ _ h => h) (fun _ h => h.elim) (fun _ _ => trivial) ?aB ?aS ?aL ?_; (case aB => rw [HB1E.out]; exact below_alloc (Below.refl _ _) _); (case aS => rw [HB1E.out]; simp); (case aL => have := HRN.out; simp only [List.length_nil]; omega); intro v2 w2 ho hb2 hg hat; obtain ⟨A2, c2, rfl⟩ := Kd.R_slice ho; have HTD := Aside0.mk ho; rw [hb1e] at hb2; have HB2 := Aside0.mk hb2; have HQ2 := Aside0.mk ((HQ.out.below HB1.out).below hb2); clear ho hb2 hg hat hmk k0 k1 k2; obtain ⟨k0, k1, k2⟩ := HQ2.out.cells))
  obtain ⟨mr, hmr⟩ : ∃ mr, mr = roots.length := ⟨_, rfl⟩
  rw [← hmr]
  rw [List.nil_append, ← hmr] at HTD
  have HMR := Aside0.mk (show mr = roots.length ∧ mr ≤ 4294967296 from ⟨hmr, by rw [hmr]; exact HRN.out⟩)
  have HM1 := Aside0.mk (HM.out.below HB1.out)
  have HK1 := Aside0.mk (KB.of_below HB2.out gm)
  have HG := Aside0.mk (show ¬ OwnQ q vl gm ∧ ¬ X gm from ⟨fun h => by have := HOL.out.1 gm h; have := HGM.out; omega, fun h => by have := HOL.out.2 gm h; have := HGM.out; omega⟩)
  have HMS2 := Aside0.mk (show MarksR w2 gm (.slice (some ⟨gm, 0, none⟩) n n) (List.replicate n false) from Kd.R_below HMS1.out HB2.out)
  have HD2 := Aside0.mk (show Dfs cs roots roots (List.replicate n false) from by rw [HN.out.1]; exact Dfs.start cs roots)
  have HWB := Aside0.mk (show b1 ≤ w2.heap.size ∧ gm < b1 ∧ q < b1 ∧ w.heap.size ≤ b1 from ⟨by rw [hb1e]; exact HB2.out.size, by rw [hb1e]; have := HW1L.out; have := HGM.out; omega, by rw [hb1e]; have := HW1L.out; have := HBW.out; omega, by rw [hb1e]; have := HW1L.out; omega⟩)
  have HBD := Aside0.mk (show mr + 2 * unm (List.replicate n false) ≤ mr + 2 * n from by have := unm_le (List.replicate n false); rw [List.length_replicate] at this; omega)
  clear hmr hb1e HX HL0 HMS1
  go_loopw [6] (fun v6 wr => ∃ (A : Option Addr) (k ct : Nat) (todo : List Int) (ms : List Bool), v6 = .slice A k ct ∧ k ≤ ct ∧ Aside0 (FreeR wr b1 (.slice A k ct) todo) ∧ Aside0 (MarksR wr gm (.slice (some ⟨gm, 0, none⟩) n n) ms) ∧ Aside0 (Dfs cs roots todo ms) ∧ Aside0 (KB w1 wr gm) ∧ Aside0 (k + 2 * unm ms ≤ mr + 2 * n)) (fun v6 wr => 2 * unm ((List.range n).map (bcell wr gm)) + (match v6 with | .slice _ k _ => k | _ => 0))
  case atStart => exact ⟨_, _, _, roots, _, rfl, (Kd.R_reads' HTD.out).2.1, HTD, HMS2, HD2, HK1, HBD⟩
  case round =>
    clear HTD HMS2 HD2 HBD HK1 k0 k1 k2
    obtain ⟨A, k, ct, todo, ms, rfl, hkc, HTD, HMS, HD, HK, HBD⟩ := hrel
    have HMr := Aside0.mk (HM1.out.keepB HG.out HK.out)
    by_cases h0 : k = 0
    · have hz2 : decide ((k : Int) > 0) = false := decide_eq_false (by omega)
      have hz3 : decide (0 < k) = false := decide_eq_false (by omega)
      have HNIL := Aside0.mk (show todo = [] from List.eq_nil_of_length_eq_zero (by have := FreeR.len HTD.out; omega))
      have HDE := Aside0.mk (show Dfs cs roots [] ms from by have := HD.out; rwa [HNIL.out] at this)
      have hqr := HMr.out.qblk
      rw [HVL.out] at hqr
      obtain ⟨k0, k1, k2⟩ := hqr.cells
      clear h0 hqr
      have HI0 := Aside0.mk (show RwI w wr base q gm n size most vl X ms (sweepS ms cs 0).1 from by
        have hs1 := HB1.out.size
        have hgm := HGM.out
        have hk2 := HK.out.k
        have hk3 := hk2.1
        have hbw := HBW.out
        refine ⟨HMr.out, ⟨by omega, fun x hx hn => (hk2.2 x (by omega) (by omega) (by simp)).trans (HB1.out.block x hx)⟩, (HB1.out.mono (by omega)).trans (HK.out.below (by omega) (by omega)), ?_⟩
        rw [← hgm]
        exact HMS.out)
      clear HD HK HBD HMS HNIL HMr HTD hkc
      go_wp2_with fail
      clear k0 k1 k2 hz2 hz3
      go_loopw [8, 79] (fun v8 v79 wr => ∃ j : Nat, j ≤ n ∧ v79 = .int .i64 (j : Int) ∧ v8 = .int .i64 ((sweepS ms cs j).2 : Int) ∧ Aside0 (RwI w wr base q gm n size most vl X ms (sweepS ms cs j).1)) (fun _ v79 _ => n - (intOf v79).toNat)
      case atStart => exact ⟨0, by omega, rfl, rfl, HI0⟩
      case round =>
        clear HI0
        obtain ⟨j, hj, rfl, rfl, HI⟩ := hrel
        by_cases h0 : j < n
        · have hd : decide ((j : Int) < (n : Int)) = true := decide_eq_true (by omega)
          have hw : wrap64 ((j : Int) + 1) = ((j + 1 : Nat) : Int) := by unfold wrap64; have := HN.out; omega
          have hlj := sweepS_length ms cs j
          obtain ⟨rows', hv'⟩ := HI.out.m.mem
          have HV := Aside0.mk hv'
          have hcell := hv'.cells
          rw [HVL.out] at hcell
          have hqr := HI.out.m.qblk
          rw [HVL.out] at hqr
          obtain ⟨k0, k1, k2⟩ := hqr.cells
          obtain ⟨gA, hgA⟩ : ∃ gA, Al = some ⟨gA, 0, none⟩ := by
            have hlen := hv'.len
            have hro : rows'[j]? = some (rows'[j]'(by have := HN.out; omega)) := List.getElem?_eq_getElem _
            obtain ⟨_, g, c', e, _⟩ := raw_row10 hcell j _ hro
            injection e with e1 _ _
            exact ⟨g, e1⟩
          subst hgA
          obtain ⟨b1', b2'⟩ := MarksR.cell HI.out.ms j h0
          obtain ⟨bu, hbu⟩ : ∃ bu, bu = (nodeAt (sweepS ms cs j).1 (j : Int)).isSome := ⟨_, rfl⟩
          obtain ⟨bm, hbm⟩ : ∃ bm, bm = ms.getD j false := ⟨_, rfl⟩
          rw [← hbm] at b1'
          have HTH := Aside0.mk (show Calls Tryd.prog 44 #[.pointer (some ⟨q, 0, none⟩), .int .i64 (j : Int)] wr fun e w' => e = .returned (.bool bu) ∧ wr = w' from by
            have := rthere_calls HI.out.m (j : Int)
            rwa [← hbu] at this)
          have HBU := Aside0.mk (show bu = (nodeAt cs (j : Int)).isSome from by
            rw [hbu]
            unfold nodeAt
            rw [if_pos (by omega), if_pos (by omega), Int.toNat_natCast, sweepS_at ms cs j j (Nat.le_refl _)])
          have HBM := Aside0.mk hbm
          obtain ⟨gone, hgone⟩ : ∃ gone, gone = (sweepS ms cs j).2 := ⟨_, rfl⟩
          rw [← hgone]
          have HGO := Aside0.mk hgone
          have q1 : (j : Int) < (n : Int) := by omega
          have q2 : 0 ≤ (j : Int) := by omega
          have HCE := Aside0.mk hcell
          clear hqr hcell hv' hbu hbm hgone hlj
          cases bu with
          | false =>
            have HSW := Aside0.mk (show sweepS ms cs (j + 1) = sweepS ms cs j from by
              show (if _ then _ else _) = _
              rw [if_neg (by rw [← HBU.out]; simp)])
            go_wp2_with fail
            refine HTH.out.mono ?_
            rintro e w' ⟨rfl, rfl⟩
            go_wp2_with fail
            go_roundw
            case measure =>
              rw [hw]
              simp only [intOf, Int.toNat_natCast]
              omega
            case rel => exact ⟨j + 1, by omega, by rw [hw], by rw [HSW.out, HGO.out], by rw [HSW.out]; exact HI⟩
          | true =>
            cases bm with
            | true =>
              have HSW := Aside0.mk (show sweepS ms cs (j + 1) = sweepS ms cs j from by
                show (if _ then _ else _) = _
                rw [if_neg (by rw [← HBM.out]; simp)])
              go_wp2_with fail
              refine HTH.out.mono ?_
              rintro e w' ⟨rfl, rfl⟩
              go_wp2_with fail
              go_roundw
              case measure =>
                rw [hw]
                simp only [intOf, Int.toNat_natCast]
                omega
              case rel => exact ⟨j + 1, by omega, by rw [hw], by rw [HSW.out, HGO.out], by rw [HSW.out]; exact HI⟩
            | false =>
              have HSW := Aside0.mk (show sweepS ms cs (j + 1) = ((sweepS ms cs j).1.set j none, (sweepS ms cs j).2 + 1) from by
                show (if _ then _ else _) = _
                rw [if_pos ⟨HBU.out.symm, HBM.out.symm⟩])
              go_wp2_with fail
              refine HTH.out.mono ?_
              rintro e w' ⟨rfl, rfl⟩
              have hw2 : wrap64 ((gone : Int) + 1) = ((gone + 1 : Nat) : Int) := by
                have h1 := sweepS_le ms cs j
                rw [← HGO.out] at h1
                have := HN.out
                unfold wrap64
                omega
              go_wp2_with (refine row_step (W := wr) base rfl rfl (.tmp 98) (.tmp 97) rfl (g := gA) (n := n) (cap := cl) j rows' node0 (.agg node0.toArray) rfl rfl rfl rfl nd0_one HCE.out h0 ?_; intro w4 hR4 hE4 hG4; have HE4 := Aside0.mk hE4; have HR4 := Aside0.mk hR4; have HG4 := Aside0.mk hG4; clear hR4 hG4 hE4 k0 k1 k2 b1' b2')
              have HI5 := Aside0.mk (show RwI w w4 base q gm n size most vl X ms (sweepS ms cs (j + 1)).1 from by
                rw [HSW.out]
                have hg4 := HG4.out
                rw [show some gA = vl.ownBlock from by rw [HVL.out, own_some]] at hg4
                have hr4 := HR4.out
                rw [← HVL.out] at hr4
                refine ⟨RefM.clear HI.out.m HV.out j hr4 hg4, ⟨Nat.le_trans HI.out.k.1 hg4.size, fun x hx hn => (hg4.block x (Nat.lt_of_lt_of_le hx HI.out.k.1) (fun e => hn (.inr e))).trans (HI.out.k.2 x hx hn)⟩, HI.out.b.trans HE4.out, ?_⟩
                refine Kd.R_mono (Kd.R_step (Kd.R_reok (ok := fun x => some x = (Value.slice (some ⟨gm, 0, none⟩) n n).ownBlock) rfl HI.out.ms (fun x e => e.symm)) (fun x hx hl => ?_)) (fun _ _ => trivial)
                rw [own_some] at hx
                obtain rfl := Option.some.inj hx
                exact hg4.block x hl (fun e => HG.out.1 (.inr e)))
              go_roundw
              case measure =>
                rw [hw]
                simp only [intOf, Int.toNat_natCast]
                omega
              case rel => exact ⟨j + 1, by omega, by rw [hw], by rw [HSW.out, hw2, HGO.out], HI5⟩
        · obtain rfl : j = n := by omega
          have hd : decide ((j : Int) < (j : Int)) = false := decide_eq_false (by omega)
          clear h0 hj
          go_wp2_with fail
          go_ret
          have hi := HI.out
          rw [HN.out.1] at hi ⊢
          exact ⟨ms, HDE.out, rfl, vl, X, hi.m, Grew.refl _ _, Grew.refl _ _, hi.k, hi.b⟩
    · obtain ⟨m, hm⟩ : ∃ m, k = m + 1 := ⟨k - 1, by omega⟩
      obtain ⟨gt, rfl, hsp⟩ := FreeR.last HTD.out m hm
      have hz2 : decide ((k : Int) > 0) = true := decide_eq_true (by omega)
      have hz3 : decide (0 < k) = true := decide_eq_true (by omega)
      have hkm : (k : Int) - 1 = (m : Int) := by omega
      have hkb : k ≤ 9223372036854775807 := by
        have := (FreeR.readsC HTD.out).2.1
        exact this
      have hwm : wrap64 (m : Int) = (m : Int) := by unfold wrap64; omega
      have q1 : (m : Int) < (k : Int) := by omega
      have q2 : (m : Int) ≤ (ct : Int) := by omega
      have q3 : m ≤ ct := by omega
      have hcm := (FreeR.cell HTD.out m (by omega)).1
      obtain ⟨i, hi⟩ : ∃ i, i = gn todo m := ⟨_, rfl⟩
      rw [← hi] at hsp hcm
      have HT2 := Aside0.mk (Kd.R_take (m := m) HTD.out (by have := FreeR.len HTD.out; omega))
      have HSP := Aside0.mk hsp
      have HDI := Aside0.mk (show Dfs cs roots (todo.take m ++ [i]) ms from by rw [← hsp]; exact HD.out)
      have HKM := Aside0.mk (And.intro hm q3)
      clear h0 hm hi hsp
      go_wp2_with fail
      refine (rthere_calls HMr.out i).mono ?_
      rintro e w' ⟨rfl, rfl⟩
      have hms := (MarksR.unm HMS.out)
      cases ho : nodeAt cs i with
      | none =>
        have HDN := Aside0.mk (HDI.out.skip (.inl ho))
        clear ho hms hcm
        go_wp2_with fail
        have hkm2 := HKM.out
        go_roundw
        case measure =>
          show 2 * _ + m < 2 * _ + k
          omega
        case rel => exact ⟨_, m, ct, _, ms, rfl, hkm2.2, HT2, HMS, HDN, HK, ⟨by have := HBD.out; omega⟩⟩
      | some nd =>
        have hlt := nodeAt_lt (cs := cs) (i := i) (by rw [ho]; rfl)
        obtain ⟨j, rfl⟩ : ∃ j : Nat, i = (j : Int) := ⟨i.toNat, by omega⟩
        rw [Int.toNat_natCast] at hlt
        have hjn : j < n := by have := HN.out; omega
        have hmc := MarksR.cell HMS.out j hjn
        have q4 : (j : Int) < (n : Int) := by omega
        have q5 : 0 ≤ (j : Int) := by omega
        have hml : j < ms.length := by have := (Kd.R_reads' HMS.out).1; omega
        cases hmk : ms.getD j false with
        | true =>
          have HDN := Aside0.mk (HDI.out.skip (.inr (by
            unfold Mk
            rw [Int.toNat_natCast, List.getElem?_eq_getElem hml]
            rw [List.getD_eq_getElem?_getD, List.getElem?_eq_getElem hml] at hmk
            exact congrArg some hmk)))
          rw [hmk] at hmc
          obtain ⟨b1, b2⟩ := hmc
          clear ho hms hcm hmk hml hlt hjn
          go_wp2_with fail
          have hkm2 := HKM.out
          go_roundw
          case measure =>
            show 2 * _ + m < 2 * _ + k
            omega
          case rel => exact ⟨_, m, ct, _, ms, rfl, hkm2.2, HT2, HMS, HDN, HK, ⟨by have := HBD.out; omega⟩⟩
        | false =>
          rw [hmk] at hmc
          obtain ⟨bb1, bb2⟩ := hmc
          have HUNM := Aside0.mk (unm_set ms j (by
            rw [List.getD_eq_getElem?_getD, List.getElem?_eq_getElem hml] at hmk
            rw [List.getElem?_eq_getElem hml]
            exact congrArg some hmk))
          have HNO := Aside0.mk ho
          obtain ⟨kk, hkk, hno⟩ := nodeAt_some ho
          obtain rfl : j = kk := by omega
          obtain ⟨gn, mm, cl', _, _, _, _, _, _, _, _, hvl, -, -, -, -, -, -, n0, -, -, -, -, -, -, n7, n8, -⟩ := HMr.out.rowAt j nd hno
          have hvl2 := hvl
          rw [HVL.out] at hvl2
          injection hvl2 with e1 e2 e3
          subst e1 e2 e3
          have HGNO := Aside0.mk (show OwnQ q vl gn from .inr (by rw [hvl, own_some]))
          have hqr := HMr.out.qblk
          rw [hvl] at hqr
          obtain ⟨-, -, k2⟩ := hqr.cells
          have hgn : gn ≠ gm := fun e => HG.out.1 (e ▸ HGNO.out)
          have hqn : q ≠ gm := fun e => HG.out.1 (.inl e.symm)
          obtain ⟨w5, hw5⟩ : ∃ w5, w5 = wr.setCell ⟨gm, j, none⟩ (.bool true) := ⟨_, rfl⟩
          have HM5 := Aside0.mk (show MarksR w5 gm (.slice (some ⟨gm, 0, none⟩) n n) (ms.set j true) from by rw [hw5]; exact HMS.out.put j true)
          have HGT := Aside0.mk (show gn < b1 ∧ b1 ≤ gt ∧ gm < b1 ∧ q < b1 from ⟨by have := HOL.out.1 gn HGNO.out; have := HWB.out; omega, own_base (Kd.R_own HTD.out).choose_spec gt own_some, HWB.out.2.1, HWB.out.2.2.1⟩)
          have hkeep : ∀ (bb dd : Nat) (u : Value), bb ≠ gm → wr.cell? ⟨bb, dd, none⟩ = some u → w5.cell? ⟨bb, dd, none⟩ = some u := fun bb dd u hb h1 => by
            rw [hw5]
            exact (World.cell?_of_block (w := wr) (a := ⟨bb, dd, none⟩) (Below.heap_setCell wr ⟨gm, j, none⟩ (.bool true) bb hb)).trans h1
          have p0 := hkeep _ _ _ hgn n0
          have p7 := hkeep _ _ _ hgn n7
          have p8 := hkeep _ _ _ hgn n8
          have pk := hkeep _ _ _ hqn k2
          have HK5 := Aside0.mk (show KB w1 w5 gm from by rw [hw5]; exact HK.out.set j _)
          have HT5 := Aside0.mk (show FreeR w5 b1 (.slice (some ⟨gt, 0, none⟩) m ct) (todo.take m) from by
            rw [hw5]
            refine Kd.R_set HT2.out (g := gm) (own_typed (Kd.R_own HMS.out).choose_spec gm own_some).choose_spec (by decide) j _)
          have hun : 2 * unm ((List.range n).map (bcell w5 gm)) + 2 = 2 * unm ((List.range n).map (bcell wr gm)) := by
            rw [MarksR.unm HM5.out, MarksR.unm HMS.out]
            have := HUNM.out
            omega
          have HUN := Aside0.mk hun
          have HWR := Aside0.mk hw5
          clear hkk hun n0 n7 n8 hms hcm hmk hml hlt hjn ho hkeep hgn hqn hvl hqr k2 hno
          have HSOK := Aside0.mk (show ∀ w' : World, Below w5.heap.size w5 w' → w'.cell? ⟨q, 2, none⟩ = some (.slice (some ⟨gn, 0, none⟩) n cl) ∧ w'.cell? ⟨gn, j * 10 + 7, none⟩ = some (.int .i64 nd.f7) ∧ w'.cell? ⟨gn, j * 10 + 8, none⟩ = some (.int .i64 nd.f8) from fun w' hb => ⟨(hb.cell (World.block_lt_of_cell? w5 _ pk)).trans pk, (hb.cell (World.block_lt_of_cell? w5 _ p7)).trans p7, (hb.cell (World.block_lt_of_cell? w5 _ p8)).trans p8⟩)
          rw [hw5] at p0 p7 p8 pk
          clear hw5
          cases hf : nd.f0 with
          | true =>
            rw [hf] at p0
            have HDN := Aside0.mk (show Dfs cs roots (todo.take m) (ms.set j true) from by
              have := HDI.out.mark HNO.out rfl
              rw [hf] at this
              simpa using this)
            clear hf
            go_wp2_with fail
            rw [← HWR.out]
            have hkm2 := HKM.out
            go_roundw
            case measure =>
              have := HUN.out
              show 2 * _ + m < 2 * _ + k
              omega
            case rel => exact ⟨_, m, ct, _, _, rfl, hkm2.2, HT5, HM5, HDN, HK5, ⟨by have := HBD.out; have := HUNM.out; omega⟩⟩
          | false =>
            rw [hf] at p0
            have HDN := Aside0.mk (show Dfs cs roots (todo.take m ++ [nd.f7, nd.f8]) (ms.set j true) from by
              have := HDI.out.mark HNO.out rfl
              rw [hf] at this
              simpa using this)
            clear hf
            go_wp2_with fail
            rw [← HWR.out]
            have HTD5 := HT5
            have HTL := Aside0.mk (show todo.length ≤ 5000000000 from by have := FreeR.len HTD.out; have := HBD.out; have := HN.out; have := HMR.out; omega)
            have HSOK6 := Aside0.mk (show ∀ (W w' : World), Below w5.heap.size w5 W → W.grownBy w' (Value.slice (some ⟨gt, 0, none⟩) m ct).ownBlock → w'.cell? ⟨q, 2, none⟩ = some (.slice (some ⟨gn, 0, none⟩) n cl) ∧ w'.cell? ⟨gn, j * 10 + 7, none⟩ = some (.int .i64 nd.f7) ∧ w'.cell? ⟨gn, j * 10 + 8, none⟩ = some (.int .i64 nd.f8) from fun W w' hb hg => by
              have h1 := HSOK.out W hb
              have h2 := HGT.out
              have h4 := HWB.out
              have h5 := hb.size
              have h6 := HK5.out.k.1
              have h8 := HB1E.out
              have h3 : w'.heap[gn]? = W.heap[gn]? := hg.block gn (by omega) (by rw [own_some]; intro e; have := Option.some.inj e; omega)
              have h7 : w'.heap[q]? = W.heap[q]? := hg.block q (by omega) (by rw [own_some]; intro e; have := Option.some.inj e; omega)
              exact ⟨(World.cell?_of_block (w := W) (a := ⟨q, 2, none⟩) h7).trans h1.1, (World.cell?_of_block (w := W) (a := ⟨gn, j * 10 + 7, none⟩) h3).trans h1.2.1, (World.cell?_of_block (w := W) (a := ⟨gn, j * 10 + 8, none⟩) h3).trans h1.2.2⟩)
            have HWL := Aside0.mk (show b1 ≤ w5.heap.size from by rw [HB1E.out]; exact HK5.out.k.1)
            clear p0 p7 p8 pk
            refine start_ (n := 20) (S := fun w' => w'.cell? ⟨q, 2, none⟩ = some (.slice (some ⟨gn, 0, none⟩) n cl) ∧ w'.cell? ⟨gn, j * 10 + 7, none⟩ = some (.int .i64 nd.f7) ∧ w'.cell? ⟨gn, j * 10 + 8, none⟩ = some (.int .i64 nd.f8)) (ds := []) #[false, false, false, false, false, false, false, false, false, false, false, false, false, false, false, false, false, false, false, false] (by kernel_rfl) rfl rfl (HSOK.out _ (below_drew (Below.refl _ _))) (fun hHeld => ?_); refine with_tabW rsweep_tab9 rsweep_bits9 (fun HT_ HW_ => ?_)
            have HB := Aside0.mk (show Below w5.heap.size w5 w5.drew from below_drew (Below.refl _ _))
            generalize hgw : w5.drew = w22 at HB hHeld ⊢
            clear hgw
            refine pure_ (i := 0) (N := some 55) (v := ?_) (a' := ?_) #[true, false, false, false, false, false, false, false, false, false, false, false, false, false, false, false, false, false, false, false] rfl rfl (any_of HT_.out (by kernel_rfl)) (fun _ _ _ h => h) (Or.inl ⟨by rfl, ?_⟩) ?_ ?_
            rotate_left
            · intro w'
              go_simp
              with_reducible rfl
            rotate_left
            · simp only [Act.put, List.setIfInBounds_toArray, List.set_cons_zero, List.set_cons_succ, i64_w, i32_w]
              rfl
            refine pure_ (i := 1) (N := some 56) (v := ?_) (a' := ?_) #[true, true, false, false, false, false, false, false, false, false, false, false, false, false, false, false, false, false, false, false] rfl rfl (any_of HT_.out (by kernel_rfl)) (fun _ _ _ h => h) (Or.inl ⟨by rfl, ?_⟩) ?_ ?_
            rotate_left
            · intro w'
              go_simp
              with_reducible rfl
            rotate_left
            · simp only [Act.put, List.setIfInBounds_toArray, List.set_cons_zero, List.set_cons_succ, i64_w, i32_w]
              rfl
            refine pure_ (i := 2) (N := some 57) (v := ?_) (a' := ?_) #[true, true, true, false, false, false, false, false, false, false, false, false, false, false, false, false, false, false, false, false] rfl rfl (any_of HT_.out (by kernel_rfl)) (fun _ _ _ h => h) (Or.inl ⟨by rfl, ?_⟩) ?_ ?_
            rotate_left
            · intro w'
              go_simp
              with_reducible rfl
            rotate_left
            · simp only [Act.put, List.setIfInBounds_toArray, List.set_cons_zero, List.set_cons_succ, i64_w, i32_w]
              rfl
            refine pure_ (i := 3) (N := some 58) (v := ?_) (a' := ?_) #[true, true, true, true, false, false, false, false, false, false, false, false, false, false, false, false, false, false, false, false] rfl rfl (any_of HT_.out (by kernel_rfl)) (fun _ _ _ h => h) (Or.inl ⟨by rfl, ?_⟩) ?_ ?_
            rotate_left
            · intro w'
              go_simp
              with_reducible rfl
            rotate_left
            · simp only [Act.put, List.setIfInBounds_toArray, List.set_cons_zero, List.set_cons_succ, i64_w, i32_w]
              rfl
            refine take_ (i := 4) (N := some 59) (v := ?_) (a' := ?_) #[true, true, true, true, true, false, false, false, false, false, false, false, false, false, false, false, false, false, false, false] rfl rfl (take_ofW HT_.out HW_.out (by kernel_rfl)) (fun _ _ _ h => h) (Or.inl ⟨by rfl, ?_⟩) hHeld ?_ ?_
            rotate_left
            · rintro w' ⟨s0, s1, s2⟩
              go_simp
              with_reducible rfl
            rotate_left
            · simp only [Act.put, List.setIfInBounds_toArray, List.set_cons_zero, List.set_cons_succ, i64_w, i32_w]
              rfl
            refine pure_ (i := 5) (N := some 60) (v := ?_) (a' := ?_) #[true, true, true, true, true, true, false, false, false, false, false, false, false, false, false, false, false, false, false, false] rfl rfl (any_of HT_.out (by kernel_rfl)) (fun _ _ _ h => h) (Or.inl ⟨by rfl, ?_⟩) ?_ ?_
            rotate_left
            · intro w'
              go_simp
              with_reducible rfl
            rotate_left
            · simp only [Act.put, List.setIfInBounds_toArray, List.set_cons_zero, List.set_cons_succ, i64_w, i32_w]
              rfl
            refine pure_ (i := 6) (N := some 61) (v := ?_) (a' := ?_) #[true, true, true, true, true, true, true, false, false, false, false, false, false, false, false, false, false, false, false, false] rfl rfl (any_of HT_.out (by kernel_rfl)) (fun _ _ _ h => h) (Or.inl ⟨by rfl, ?_⟩) ?_ ?_
            rotate_left
            · intro w'
              go_simp
              with_reducible rfl
            rotate_left
            · simp only [Act.put, List.setIfInBounds_toArray, List.set_cons_zero, List.set_cons_succ, i64_w, i32_w]
              rfl
            refine pure_ (i := 7) (N := some 62) (v := ?_) (a' := ?_) #[true, true, true, true, true, true, true, true, false, false, false, false, false, false, false, false, false, false, false, false] rfl rfl (any_of HT_.out (by kernel_rfl)) (fun _ _ _ h => h) (Or.inl ⟨by rfl, ?_⟩) ?_ ?_
            rotate_left
            · intro w'
              go_simp
              with_reducible rfl
            rotate_left
            · simp only [Act.put, List.setIfInBounds_toArray, List.set_cons_zero, List.set_cons_succ, i64_w, i32_w]
              rfl
            refine take_ (i := 8) (N := some 63) (v := ?_) (a' := ?_) #[true, true, true, true, true, true, true, true, true, false, false, false, false, false, false, false, false, false, false, false] rfl rfl (take_ofW HT_.out HW_.out (by kernel_rfl)) (fun _ _ _ h => h) (Or.inl ⟨by rfl, ?_⟩) hHeld ?_ ?_
            rotate_left
            · rintro w' ⟨s0, s1, s2⟩
              go_simp
              with_reducible rfl
            rotate_left
            · simp only [Act.put, List.setIfInBounds_toArray, List.set_cons_zero, List.set_cons_succ, i64_w, i32_w]
              rfl
            refine pure_ (i := 9) (N := some 64) (v := ?_) (a' := ?_) #[true, true, true, true, true, true, true, true, true, true, false, false, false, false, false, false, false, false, false, false] rfl rfl (any_of HT_.out (by kernel_rfl)) (fun _ _ _ h => h) (Or.inl ⟨by rfl, ?_⟩) ?_ ?_
            rotate_left
            · intro w'
              go_simp
              with_reducible rfl
            rotate_left
            · simp only [Act.put, List.setIfInBounds_toArray, List.set_cons_zero, List.set_cons_succ, i64_w, i32_w]
              rfl
            refine pure_ (i := 10) (N := some 65) (v := ?_) (a' := ?_) #[true, true, true, true, true, true, true, true, true, true, true, false, false, false, false, false, false, false, false, false] rfl rfl (any_of HT_.out (by kernel_rfl)) (fun _ _ _ h => h) (Or.inl ⟨by rfl, ?_⟩) ?_ ?_
            rotate_left
            · intro w'
              go_simp
              with_reducible rfl
            rotate_left
            · simp only [Act.put, List.setIfInBounds_toArray, List.set_cons_zero, List.set_cons_succ, i64_w, i32_w]
              rfl
            refine pure_ (i := 11) (N := some 66) (v := ?_) (a' := ?_) #[true, true, true, true, true, true, true, true, true, true, true, true, false, false, false, false, false, false, false, false] rfl rfl (any_of HT_.out (by kernel_rfl)) (fun _ _ _ h => h) (Or.inl ⟨by rfl, ?_⟩) ?_ ?_
            rotate_left
            · intro w'
              go_simp
              with_reducible rfl
            rotate_left
            · simp only [Act.put, List.setIfInBounds_toArray, List.set_cons_zero, List.set_cons_succ, i64_w, i32_w]
              rfl
            refine take_ (i := 12) (N := some 67) (v := ?_) (a' := ?_) #[true, true, true, true, true, true, true, true, true, true, true, true, true, false, false, false, false, false, false, false] rfl rfl (take_ofW HT_.out HW_.out (by kernel_rfl)) (fun _ _ _ h => h) (Or.inl ⟨by rfl, ?_⟩) hHeld ?_ ?_
            rotate_left
            · rintro w' ⟨s0, s1, s2⟩
              go_simp
              with_reducible rfl
            rotate_left
            · simp only [Act.put, List.setIfInBounds_toArray, List.set_cons_zero, List.set_cons_succ, i64_w, i32_w]
              rfl
            refine pure_ (i := 13) (N := some 68) (v := ?_) (a' := ?_) #[true, true, true, true, true, true, true, true, true, true, true, true, true, true, false, false, false, false, false, false] rfl rfl (any_of HT_.out (by kernel_rfl)) (fun _ _ _ h => h) (Or.inl ⟨by rfl, ?_⟩) ?_ ?_
            rotate_left
            · intro w'
              go_simp
              with_reducible rfl
            rotate_left
            · simp only [Act.put, List.setIfInBounds_toArray, List.set_cons_zero, List.set_cons_succ, i64_w, i32_w]
              rfl
            refine pure_ (i := 14) (N := some 69) (v := ?_) (a' := ?_) #[true, true, true, true, true, true, true, true, true, true, true, true, true, true, true, false, false, false, false, false] rfl rfl (any_of HT_.out (by kernel_rfl)) (fun _ _ _ h => h) (Or.inl ⟨by rfl, ?_⟩) ?_ ?_
            rotate_left
            · intro w'
              go_simp
              with_reducible rfl
            rotate_left
            · simp only [Act.put, List.setIfInBounds_toArray, List.set_cons_zero, List.set_cons_succ, i64_w, i32_w]
              rfl
            refine pure_ (i := 15) (N := some 70) (v := ?_) (a' := ?_) #[true, true, true, true, true, true, true, true, true, true, true, true, true, true, true, true, false, false, false, false] rfl rfl (any_of HT_.out (by kernel_rfl)) (fun _ _ _ h => h) (Or.inl ⟨by rfl, ?_⟩) ?_ ?_
            rotate_left
            · intro w'
              go_simp
              with_reducible rfl
            rotate_left
            · simp only [Act.put, List.setIfInBounds_toArray, List.set_cons_zero, List.set_cons_succ, i64_w, i32_w]
              rfl
            refine take_ (i := 16) (N := some 71) (v := ?_) (a' := ?_) #[true, true, true, true, true, true, true, true, true, true, true, true, true, true, true, true, true, false, false, false] rfl rfl (take_ofW HT_.out HW_.out (by kernel_rfl)) (fun _ _ _ h => h) (Or.inl ⟨by rfl, ?_⟩) hHeld ?_ ?_
            rotate_left
            · rintro w' ⟨s0, s1, s2⟩
              go_simp
              with_reducible rfl
            rotate_left
            · simp only [Act.put, List.setIfInBounds_toArray, List.set_cons_zero, List.set_cons_succ, i64_w, i32_w]
              rfl
            refine one_ (i := 17) (N := some 72) #[true, true, true, true, true, true, true, true, true, true, true, true, true, true, true, true, true, true, false, false] rfl rfl (one_of HT_.out (by kernel_rfl)) (by decide) (fun K hK => ?_)
            refine value_ (v := .slice (some ⟨w22.heap.size, 0, none⟩) 2 2) (w1 := w22.alloc (.cells #[.int .i64 nd.f7, .int .i64 nd.f8] 3)) (by rfl) rfl ?_ ?_
            · (go_simp <;> first | rfl | done)
            refine hK.out _ _ (HSOK.out _ (below_step HB.out (below_alloc (Below.refl _ _) _))) (fun hHeld => ?_)
            clear hK K
            refine norm_ (a' := ?_) ?_ ?_
            rotate_left
            · show Act.put _ (some 72) _ = _
              simp only [Act.put, List.setIfInBounds_toArray, List.set_cons_zero, List.set_cons_succ, i64_w, i32_w]
              rfl
            refine one_ (i := 18) (N := some 73) #[true, true, true, true, true, true, true, true, true, true, true, true, true, true, true, true, true, true, true, false] rfl rfl (one_of HT_.out (by kernel_rfl)) (by decide) (fun K hK => ?_)
            refine Kd.R_append_rows_step (Kd.int .i64) (w0 := w5) b1 (by rfl) (.tmp 55) (.tmp 72) 32 3 (.int .i64 0) 8 rfl Tryd.underlying32 (by kernel_rfl) rfl (by decide) (by omega) (.slice (some ⟨gt, 0, none⟩) m ct) (todo.take m) [nd.f7, nd.f8] (some ⟨w22.heap.size, 0, none⟩) 2 2 (fun _ => True) (fun _ => False) rfl rfl ?aO ?aR (fun _ _ h => h) (fun _ h => h.elim) ?aF ?aB ?aS ?aL ?_
            case aO => exact Kd.R_below HTD5.out (HB.out.trans (below_alloc (Below.refl _ _) _ |>.mono HB.out.size))
            case aR => exact lit2_C (heap_alloc_new w22 _)
            case aF => exact (fun _ _ => trivial)
            case aB => exact (HB.out.trans ((below_alloc (Below.refl _ _) _).mono HB.out.size)).mono HWL.out
            case aS => have := HB.out.size; have := HWL.out; simp; omega
            case aL => have := HTL.out; simp only [List.length_take]; omega
            intro v1 w6 ho hb2 hg hat
            obtain ⟨A1, c1, rfl⟩ := Kd.R_slice ho
            obtain ⟨kl, hkl⟩ : ∃ kl, kl = (todo.take m ++ [nd.f7, nd.f8]).length := ⟨_, rfl⟩
            rw [← hkl] at ho
            rw [← hkl]
            have HKL := Aside0.mk hkl
            clear hkl
            have HO := Aside0.mk ho
            have HB6 := Aside0.mk hb2
            have HG6 := Aside0.mk hg
            clear ho hb2 hg hat
            refine hK.out _ _ (HSOK6.out _ w6 (HB.out.trans ((below_alloc (Below.refl _ _) _).mono HB.out.size)) HG6.out) (fun hHeld => ?_)
            clear hK K
            refine norm_ (a' := ?_) ?_ ?_
            rotate_left
            · show Act.put _ (some 73) _ = _
              simp only [Act.put, List.setIfInBounds_toArray, List.set_cons_zero, List.set_cons_succ, i64_w, i32_w]
              rfl
            refine pure_ (i := 19) (N := some 6) (v := ?_) (a' := ?_) #[true, true, true, true, true, true, true, true, true, true, true, true, true, true, true, true, true, true, true, true] rfl rfl (any_of HT_.out (by kernel_rfl)) (fun _ _ _ h => h) (Or.inl ⟨by rfl, ?_⟩) ?_ ?_
            rotate_left
            · intro w'
              go_simp
              with_reducible rfl
            rotate_left
            · simp only [Act.put, List.setIfInBounds_toArray, List.set_cons_zero, List.set_cons_succ, i64_w, i32_w]
              rfl
            refine done_ (done_of HT_.out (by kernel_rfl)) ?_
            have HMS6 := Aside0.mk (show MarksR w6 gm (.slice (some ⟨gm, 0, none⟩) n n) (ms.set j true) from
              Kd.R_mono (Kd.R_step (Kd.R_reok (ok := fun x => some x = (Value.slice (some ⟨gm, 0, none⟩) n n).ownBlock) rfl HM5.out (fun x e => e.symm)) (fun x hx _ => by
                rw [own_some] at hx
                obtain rfl := Option.some.inj hx
                exact HB6.out.block x HGT.out.2.2.1)) (fun _ _ => trivial))
            have HK6 := Aside0.mk (show KB w1 w6 gm from by
              refine ⟨⟨Nat.le_trans HK5.out.k.1 HB6.out.size, fun x hx hne hr => (HB6.out.block x (by rw [HB1E.out]; exact hx)).trans (HK5.out.k.2 x hx hne hr)⟩, HK5.out.b.trans (HB6.out.mono (Nat.zero_le _))⟩)
            have HLN := Aside0.mk (show (todo.take m ++ [nd.f7, nd.f8]).length = m + 2 from by
              have := FreeR.len HT2.out
              rw [List.length_append]
              simp only [List.length_cons, List.length_nil]
              omega)
            have HUN6 := Aside0.mk (show 2 * unm ((List.range n).map (bcell w6 gm)) + 2 = 2 * unm ((List.range n).map (bcell wr gm)) from by
              rw [MarksR.unm HMS6.out, MarksR.unm HMS.out]
              have := HUNM.out
              omega)
            clear hHeld HB
            go_wp2_with fail
            have hkm2 := HKM.out
            have hln := HLN.out
            go_roundw
            case measure =>
              have := HUN6.out
              have := HKL.out
              show 2 * _ + kl < 2 * _ + k
              omega
            case rel => exact ⟨_, _, _, _, _, rfl, (Kd.R_reads' HO.out).2.1, HO, HMS6, HDN, HK6, ⟨by have := HBD.out; have := HUNM.out; have := HKL.out; omega⟩⟩
end Go.Proofs.YtdeneoknjeegbaaDoor.P
end
section
set_option linter.unusedVariables false
set_option linter.unusedSimpArgs false
namespace Go.Proofs.YtdeneoknjeegbaaDoor.P
open Go.RowKit Go.Proofs.YtdeneoknjeegbaaDoor.Pure Go.Proofs.YtdeneoknjeegbaaDoorW.PrintWords Go.Proofs.YtdeneoknjeegbaaDoorW.PrintLast Go.Proofs.YtdeneoknjeegbaaDoorW.PrintMore
theorem cut_twice : ∀ s : Fin 8, ∀ x : Fin 256, Go.bits .and .u8 (Go.bits .and .u8 (x.val : Int) (255 * 2 ^ s.val % 256)) (255 * 2 ^ s.val % 256) = Go.bits .and .u8 (x.val : Int) (255 * 2 ^ s.val % 256) := by decide +kernel
theorem cutByte_idem (x : Int) (o : Nat) (ho : 0 < o ∧ o < 8) (hx : 0 ≤ x ∧ x ≤ 255) : cutByte (cutByte x (o : Int)) (o : Int) = cutByte x (o : Int) := by
  unfold cutByte
  have := cut_twice ⟨8 - o, by omega⟩ ⟨x.toNat, by omega⟩
  simp only [Int.toNat_of_nonneg hx.1] at this
  rw [show (8 - (o : Int)).toNat = 8 - o by omega]
  exact this
theorem firstB_idem (l : List Int) (hb : BytesOk l) (a : Int) : firstB (firstB l a) a = firstB l a := by
  by_cases h8 : 8 * (l.length : Int) ≤ a
  · have : firstB l a = l := by unfold firstB; rw [if_pos h8]
    rw [this, this]
  by_cases h1 : a < 1
  · have : firstB l a = [] := by unfold firstB; rw [if_neg h8, if_pos h1]
    rw [this]
    unfold firstB
    (repeat' split) <;> first | rfl | omega
  have e1 : firstB l a = firstBits l a.toNat := by unfold firstB; rw [if_neg h8, if_neg h1]
  obtain ⟨n, hn⟩ : ∃ n, n = a.toNat := ⟨_, rfl⟩
  obtain ⟨m, hm⟩ : ∃ m, m = bitBytes n := ⟨_, rfl⟩
  have hm' : m = (n - 1) / 8 + 1 := hm
  have hml : m ≤ l.length := by omega
  rw [e1]
  by_cases h0 : n % 8 = 0
  · have e2 : firstBits l a.toNat = l.take m := by unfold firstBits; rw [← hn, if_pos h0, ← hm]
    rw [e2]
    unfold firstB
    rw [if_pos (by rw [List.length_take]; omega)]
  · obtain ⟨t, ht⟩ : ∃ t, t = l.take m := ⟨_, rfl⟩
    have htl : t.length = m := by rw [ht, List.length_take]; omega
    have e2 : firstBits l a.toNat = t.set (m - 1) (cutByte (t.getD (m - 1) 0) ((n % 8 : Nat) : Int)) := by unfold firstBits; rw [← hn, if_neg h0, ← hm, ← ht]
    have hx : 0 ≤ t.getD (m - 1) 0 ∧ t.getD (m - 1) 0 ≤ 255 := BytesOk.get (show BytesOk t from fun x hx => hb x (by rw [ht] at hx; exact List.mem_of_mem_take hx)) _
    obtain ⟨y, hy⟩ : ∃ y, y = cutByte (t.getD (m - 1) 0) ((n % 8 : Nat) : Int) := ⟨_, rfl⟩
    have hyy : cutByte y ((n % 8 : Nat) : Int) = y := by rw [hy]; exact cutByte_idem _ _ (by omega) hx
    rw [e2, ← hy]
    unfold firstB
    rw [if_neg (by rw [List.length_set, htl]; omega), if_neg h1]
    unfold firstBits
    rw [← hn, if_neg h0, ← hm, List.take_of_length_le (by rw [List.length_set, htl]; omega), List.getD_eq_getElem?_getD, List.getElem?_set_self (by omega)]
    simp only [Option.getD_some]
    rw [hyy, List.set_set]
theorem wordByte_ok (ws : List Int) (i : Nat) : 0 ≤ wordByte ws i ∧ wordByte ws i ≤ 255 := by
  unfold wordByte
  omega
theorem outB_ok (ws : List Int) : ∀ k, BytesOk (outB ws k)
  | 0 => fun x hx => by
    have := List.eq_of_mem_replicate hx
    omega
  | k + 1 => fun x hx => by
    rcases List.mem_or_eq_of_mem_set hx with h | rfl
    · exact outB_ok ws k x h
    · exact wordByte_ok ws k
theorem hashB_ok (size tag : Int) (parts : List (List Int)) : BytesOk (hashB size tag parts) := by
  unfold hashB
  split
  · intro x hx; cases hx
  · intro x hx
    exact outB_ok _ 32 x (List.mem_of_mem_take hx)
theorem hashB_le (size tag : Int) (parts : List (List Int)) : (hashB size tag parts).length ≤ 32 := by
  unfold hashB
  split
  · simp
  · rw [List.length_take, shaSum_length]
    omega
def CsOk (cs : Cs) : Prop := ∀ n, some n ∈ cs → NdLen n ∧ BytesOk n.f9
theorem nodeAt_mem {cs : Cs} {i : Int} {n : Nd} (h : nodeAt cs i = some n) : some n ∈ cs := by
  obtain ⟨k, rfl, hk⟩ := nodeAt_some h
  exact List.mem_of_getElem? hk
theorem CsOk.nil : CsOk [] := fun n h => by cases h
theorem CsOk.at {cs : Cs} (h : CsOk cs) (i : Int) (n : Nd) (hn : nodeAt cs i = some n) : NdLen n ∧ BytesOk n.f9 := h n (nodeAt_mem hn)
theorem CsOk.put {cs : Cs} (h : CsOk cs) {n : Nd} (hn : NdLen n ∧ BytesOk n.f9) : CsOk (putC cs n) := by
  unfold putC
  split
  · intro m hm
    rcases List.mem_or_eq_of_mem_set hm with h1 | h1
    · exact h m h1
    · obtain rfl := Option.some.inj h1
      exact hn
  · intro m hm
    rcases List.mem_append.1 hm with h1 | h1
    · exact h m h1
    · obtain rfl : m = n := by simpa using h1
      exact hn
theorem CsOk.sweep {cs : Cs} (h : CsOk cs) (ms : List Bool) : ∀ j, CsOk (sweepS ms cs j).1
  | 0 => h
  | j + 1 => by
    have := CsOk.sweep h ms j
    simp only [sweepS]
    split
    · intro m hm
      rcases List.mem_or_eq_of_mem_set hm with h1 | h1
      · exact this m h1
      · cases h1
    · exact this
theorem leafNd_ok (size : Int) (l1 l2 : List Int) (since : Int) (h1 : l1.length ≤ 65535) (h2 : l2.length ≤ 65535) : NdLen (leafNd size l1 l2 since) ∧ BytesOk (leafNd size l1 l2 since).f9 :=
  ⟨⟨h1, h2, Nat.zero_le _, Nat.le_trans (hashB_le _ _ _) (by decide)⟩, hashB_ok _ _ _⟩
theorem forkNd_ok (size depth : Int) (pr : List Int) (left right : Int) (nl nr : Nd) (h1 : pr.length ≤ 65535) : NdLen (forkNd size depth pr left right nl nr) ∧ BytesOk (forkNd size depth pr left right nl nr).f9 :=
  ⟨⟨Nat.zero_le _, Nat.zero_le _, Nat.le_trans (firstB_length _ _) h1, Nat.le_trans (hashB_le _ _ _) (by decide)⟩, hashB_ok _ _ _⟩
theorem forkOf_ok {cs : Cs} (size depth : Int) (pr : List Int) (left right : Int) (h : ¬ forkBad cs depth pr left right) : NdLen (forkOf size cs depth pr left right) ∧ BytesOk (forkOf size cs depth pr left right).f9 := by
  unfold forkOf
  have h1 : pr.length ≤ 65535 := by
    rcases Nat.lt_or_ge 65535 pr.length with hl | hl
    · exact absurd (.inr (.inr (.inl hl))) h
    · exact hl
  cases hl : nodeAt cs left with
  | none => exact absurd (.inr (.inr (.inr (.inl hl)))) h
  | some nl =>
    cases hr : nodeAt cs right with
    | none => exact absurd (.inr (.inr (.inr (.inr hr)))) h
    | some nr => exact forkNd_ok _ _ _ _ _ _ _ h1
theorem rforkOf_eq (cs : Cs) (size depth : Int) (pr : List Int) (hb : BytesOk pr) (left right : Int) : rforkOf size cs depth pr left right = forkOf size cs depth pr left right := by
  unfold rforkOf forkOf
  cases hl : nodeAt cs left with
  | none => rfl
  | some nl =>
    cases hr : nodeAt cs right with
    | none => rfl
    | some nr =>
      simp only
      unfold rforkNd forkNd
      rw [firstB_idem pr hb depth]
structure Pr (w : World) (base p q : Nat) (size room : Int) (vc vf vl : Value) (X : Nat → Prop) (cs cs2 : Cs) : Prop where
  a : ArenaM w base p size room vc vf X cs
  r : RefM w base q size room vl X cs2
  apart : ∀ k, OwnS p vc vf k → ¬ OwnQ q vl k
theorem ArenaM.sep {w : World} {base p : Nat} {size room : Int} {vc vf : Value} {X : Nat → Prop} {cs : Cs} (h : ArenaM w base p size room vc vf X cs) (k : Nat) (hk : X k) : k < w.heap.size ∧ ¬ OwnS p vc vf k := by
  obtain ⟨rows, fr, hv⟩ := h.mem
  exact hv.sep k hk
theorem ArenaM.own {w : World} {base p : Nat} {size room : Int} {vc vf : Value} {X : Nat → Prop} {cs : Cs} (h : ArenaM w base p size room vc vf X cs) (k : Nat) (hk : OwnS p vc vf k) : k < w.heap.size := by
  obtain ⟨rows, fr, hv⟩ := h.mem
  exact hv.own_lt k hk
theorem RefM.sep {w : World} {base q : Nat} {size most : Int} {vl : Value} {X : Nat → Prop} {cs : Cs} (h : RefM w base q size most vl X cs) (k : Nat) (hk : X k) : k < w.heap.size ∧ ¬ OwnQ q vl k := by
  obtain ⟨rows, hv⟩ := h.mem
  exact hv.sep k hk
theorem RefM.own {w : World} {base q : Nat} {size most : Int} {vl : Value} {X : Nat → Prop} {cs : Cs} (h : RefM w base q size most vl X cs) (k : Nat) (hk : OwnQ q vl k) : k < w.heap.size := by
  obtain ⟨rows, hv⟩ := h.mem
  exact hv.own_lt k hk
theorem Pr.below {w w1 : World} {base p q : Nat} {size room : Int} {vc vf vl : Value} {X : Nat → Prop} {cs cs2 : Cs} (h : Pr w base p q size room vc vf vl X cs cs2) (hb : Below w.heap.size w w1) : Pr w1 base p q size room vc vf vl X cs cs2 :=
  ⟨h.a.below hb, h.r.below hb, h.apart⟩
structure Step (w w' : World) (base p q : Nat) (size room : Int) (vc vf vl : Value) (X X' : Nat → Prop) (cs cs2 : Cs) : Prop where
  pr : Pr w' base p q size room vc vf vl X' cs cs2
  sub : ∀ k, X k → X' k
  low : Below base w w'
  same : ∀ k, X k → w'.heap[k]? = w.heap[k]?
theorem Pr.arena {w w' : World} {base p q : Nat} {size room : Int} {vc vf vl : Value} {X : Nat → Prop} {cs cs1 cs2 : Cs} (h : Pr w base p q size room vc vf vl X cs cs2) (hp : ArenaP w w' base p size room vc vf X cs1) : ∃ vc' vf' X', Step w w' base p q size room vc' vf' vl X X' cs1 cs2 := by
  obtain ⟨vc', vf', X1, hM, g1, g2, hk, hb⟩ := hp
  have hold : ∀ k, k < w.heap.size → OwnS p vc' vf' k → OwnS p vc vf k := fun k hl ho => (g1 k ho).elim id (fun h1 => absurd h1 (by omega))
  refine ⟨vc', vf', fun k => X k ∨ X1 k, ⟨⟨?_, ?_, ?_⟩, fun k hx => .inl hx, hb, fun k hx => hk.2 k (h.a.sep k hx).1 (h.a.sep k hx).2⟩⟩
  · refine hM.step (Nat.le_refl _) (fun _ _ _ => rfl) (fun k hx => .inr hx) (fun k hx => ?_)
    rcases hx with hx | hx
    · have := h.a.sep k hx
      exact ⟨Nat.lt_of_lt_of_le this.1 hk.1, fun ho => this.2 (hold k this.1 ho)⟩
    · exact hM.sep k hx
  · refine h.r.step hk.1 (fun k hl ho => hk.2 k hl ?_) (fun k hx => .inl hx) (fun k hx => ?_)
    · rcases ho with ho | ho
      · exact fun hs => h.apart k hs ho
      · exact (h.a.sep k ho).2
    · rcases hx with hx | hx
      · have := h.r.sep k hx
        exact ⟨Nat.lt_of_lt_of_le this.1 hk.1, this.2⟩
      · refine ⟨(hM.sep k hx).1, fun ho => ?_⟩
        rcases g2 k hx with h1 | h1
        · exact (h.r.sep k h1).2 ho
        · have := h.r.own k ho
          omega
  · intro k hs hq
    exact h.apart k (hold k (h.r.own k hq) hs) hq
theorem Pr.ref {w w' : World} {base p q : Nat} {size room : Int} {vc vf vl : Value} {X : Nat → Prop} {cs cs1 cs2 : Cs} (h : Pr w base p q size room vc vf vl X cs cs2) (hp : RefP w w' base q size room vl X cs1) : ∃ vl' X', Step w w' base p q size room vc vf vl' X X' cs cs1 := by
  obtain ⟨vl', X1, hM, g1, g2, hk, hb⟩ := hp
  have hold : ∀ k, k < w.heap.size → OwnQ q vl' k → OwnQ q vl k := fun k hl ho => (g1 k ho).elim id (fun h1 => absurd h1 (by omega))
  refine ⟨vl', fun k => X k ∨ X1 k, ⟨⟨?_, ?_, ?_⟩, fun k hx => .inl hx, hb, fun k hx => hk.2 k (h.r.sep k hx).1 (h.r.sep k hx).2⟩⟩
  · refine h.a.step hk.1 (fun k hl ho => hk.2 k hl ?_) (fun k hx => .inl hx) (fun k hx => ?_)
    · rcases ho with ho | ho
      · exact fun hs => h.apart k ho hs
      · exact (h.r.sep k ho).2
    · rcases hx with hx | hx
      · have := h.a.sep k hx
        exact ⟨Nat.lt_of_lt_of_le this.1 hk.1, this.2⟩
      · refine ⟨(hM.sep k hx).1, fun ho => ?_⟩
        rcases g2 k hx with h1 | h1
        · exact (h.a.sep k h1).2 ho
        · have := h.a.own k ho
          omega
  · refine hM.step (Nat.le_refl _) (fun _ _ _ => rfl) (fun k hx => .inr hx) (fun k hx => ?_)
    rcases hx with hx | hx
    · have := h.r.sep k hx
      exact ⟨Nat.lt_of_lt_of_le this.1 hk.1, fun ho => this.2 (hold k this.1 ho)⟩
    · exact hM.sep k hx
  · intro k hs hq
    exact h.apart k hs (hold k (h.a.own k hs) hq)
end Go.Proofs.YtdeneoknjeegbaaDoor.P
end
section
set_option linter.unusedVariables false
set_option linter.unusedSimpArgs false
namespace Go.Proofs.YtdeneoknjeegbaaDoor.P
open Go.RowKit Go.Proofs.YtdeneoknjeegbaaDoorW.PrintWords Go.Proofs.YtdeneoknjeegbaaDoorW.PrintLast Go.Proofs.YtdeneoknjeegbaaDoorW.PrintMore
def newBad (size room : Int) : Prop := size < 1 ∨ 32 < size ∨ room < 1 ∨ 4194304 < room
set_option maxRecDepth 100000 in
theorem new_bad (size room : Int) (w : World) (hb : newBad size room) :
    Calls Tryd.prog 8 #[.int .i64 size, .int .i64 room] w fun e w' => e = .returned (.tuple #[.pointer none, .int .i64 1]) ∧ w = w' := by
  have HX := Aside0.mk hb
  clear hb
  by_cases h1 : size < 1
  · have d1 : decide (size < 1) = true := decide_eq_true h1
    clear h1
    go_enter Tryd.func8, Tryd.ntmps8
    go_wp2_with fail
    go_ret2
    exact ⟨rfl, rfl⟩
  have d1 : decide (size < 1) = false := decide_eq_false h1
  by_cases h2 : 32 < size
  · have d2 : decide (32 < size) = true := decide_eq_true h2
    clear h1 h2
    go_enter Tryd.func8, Tryd.ntmps8
    go_wp2_with fail
    go_ret2
    exact ⟨rfl, rfl⟩
  have d2 : decide (32 < size) = false := decide_eq_false h2
  by_cases h3 : room < 1
  · have d3 : decide (room < 1) = true := decide_eq_true h3
    clear h1 h2 h3
    go_enter Tryd.func8, Tryd.ntmps8
    go_wp2_with fail
    go_ret2
    exact ⟨rfl, rfl⟩
  have d3 : decide (room < 1) = false := decide_eq_false h3
  have d4 : decide (4194304 < room) = true := decide_eq_true (((HX.out.resolve_left h1).resolve_left h2).resolve_left h3)
  clear h1 h2 h3
  go_enter Tryd.func8, Tryd.ntmps8
  go_wp2_with fail
  go_ret2
  exact ⟨rfl, rfl⟩
set_option maxRecDepth 100000 in
theorem rnew_bad (size room : Int) (w : World) (hb : newBad size room) :
    Calls Tryd.prog 9 #[.int .i64 size, .int .i64 room] w fun e w' => e = .returned (.tuple #[.pointer none, .int .i64 1]) ∧ w = w' := by
  have HX := Aside0.mk hb
  clear hb
  by_cases h1 : size < 1
  · have d1 : decide (size < 1) = true := decide_eq_true h1
    clear h1
    go_enter Tryd.func9, Tryd.ntmps9
    go_wp2_with fail
    go_ret2
    exact ⟨rfl, rfl⟩
  have d1 : decide (size < 1) = false := decide_eq_false h1
  by_cases h2 : 32 < size
  · have d2 : decide (32 < size) = true := decide_eq_true h2
    clear h1 h2
    go_enter Tryd.func9, Tryd.ntmps9
    go_wp2_with fail
    go_ret2
    exact ⟨rfl, rfl⟩
  have d2 : decide (32 < size) = false := decide_eq_false h2
  by_cases h3 : room < 1
  · have d3 : decide (room < 1) = true := decide_eq_true h3
    clear h1 h2 h3
    go_enter Tryd.func9, Tryd.ntmps9
    go_wp2_with fail
    go_ret2
    exact ⟨rfl, rfl⟩
  have d3 : decide (room < 1) = false := decide_eq_false h3
  have d4 : decide (4194304 < room) = true := decide_eq_true (((HX.out.resolve_left h1).resolve_left h2).resolve_left h3)
  clear h1 h2 h3
  go_enter Tryd.func9, Tryd.ntmps9
  go_wp2_with fail
  go_ret2
  exact ⟨rfl, rfl⟩
set_option maxRecDepth 100000 in
theorem rnew_calls (size room : Int) (w : World) (hb : ¬ newBad size room) :
    Calls Tryd.prog 9 #[.int .i64 size, .int .i64 room] w fun e w' => e = .returned (.tuple #[.pointer (some ⟨w.heap.size, 0, none⟩), .int .i64 0]) ∧ QBlk w' w.heap.size size room (.slice none 0 0) ∧ Below w.heap.size w w' := by
  have d1 : decide (size < 1) = false := decide_eq_false (fun h => hb (.inl h))
  have d2 : decide (32 < size) = false := decide_eq_false (fun h => hb (.inr (.inl h)))
  have d3 : decide (room < 1) = false := decide_eq_false (fun h => hb (.inr (.inr (.inl h))))
  have d4 : decide (4194304 < room) = false := decide_eq_false (fun h => hb (.inr (.inr (.inr h))))
  clear hb
  go_enter Tryd.func9, Tryd.ntmps9
  go_wp2_with fail
  go_ret2
  exact ⟨rfl, heap_alloc_new w _, below_alloc (Below.refl _ _) _⟩
theorem Pr.start {w w1 w2 : World} {size room : Int} (hb : ¬ newBad size room) (ha : ABlk w1 w.heap.size size room (.slice none 0 0) (.slice none 0 0)) (h1 : Below w.heap.size w w1) (hr : QBlk w2 w1.heap.size size room (.slice none 0 0)) (h2 : Below w1.heap.size w1 w2) :
    Pr w2 w.heap.size w.heap.size w1.heap.size size room (.slice none 0 0) (.slice none 0 0) (.slice none 0 0) (fun k => k < w.heap.size) [] [] := by
  have hs : 1 ≤ size ∧ size ≤ 32 := ⟨by by_cases h : size < 1; exact absurd (.inl h) hb; omega, by by_cases h : 32 < size; exact absurd (.inr (.inl h)) hb; omega⟩
  have hm : 1 ≤ room ∧ room ≤ 4194304 := ⟨by by_cases h : room < 1; exact absurd (.inr (.inr (.inl h))) hb; omega, by by_cases h : 4194304 < room; exact absurd (.inr (.inr (.inr h))) hb; omega⟩
  have hlt := ha.lt
  have hlt2 := hr.lt
  have hz := h1.size
  refine ⟨⟨⟨[], [], ⟨ha.below h2, Kd.R_nil _ _ _ _ _, Kd.R_nil _ _ _ _ _, ?_, FreeOk.nil, rfl, fun i o r h => by simp at h, fun k hk => ⟨by omega, ?_⟩⟩⟩, Nat.le_refl _, hs, hm, by simp; omega⟩, ⟨⟨[], ⟨hr, Kd.R_nil _ _ _ _ _, rfl, fun i o r h => by simp at h, fun k hk => ⟨by omega, ?_⟩⟩⟩, hz, hs, hm, by simp; omega⟩, ?_⟩
  · intro k hk h0
    exact absurd h0 (by simp)
  · rintro (rfl | h | h)
    · omega
    · simp [Value.ownBlock] at h
    · simp [Value.ownBlock] at h
  · rintro (rfl | h)
    · omega
    · simp [Value.ownBlock] at h
  · rintro k (rfl | h | h)
    · rintro (h | h)
      · omega
      · simp [Value.ownBlock] at h
    · simp [Value.ownBlock] at h
    · simp [Value.ownBlock] at h
end Go.Proofs.YtdeneoknjeegbaaDoor.P
end
