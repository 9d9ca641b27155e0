/- Lemmas of this claim, part 14. -/
import Derived.Test.YtdeneoknjeegbaaDoorPartArenaSwept13
import Derived.BigRegion
section
set_option linter.unusedVariables false
set_option linter.unusedSimpArgs false
namespace Go.Proofs.YtdeneoknjeegbaaDoor.P
open Go.RowKit Go.Proofs.YtdeneoknjeegbaaDoorW.PrintWords Go.Proofs.YtdeneoknjeegbaaDoorW.PrintLast Go.Proofs.YtdeneoknjeegbaaDoorW.PrintMore
def QBlk (w : World) (q : Nat) (size most : Int) (vl : Value) : Prop := w.heap[q]? = some (.cells #[.int .i64 size, .int .i64 most, vl] 80 (0, 0))
theorem QBlk.below {w w1 : World} {q : Nat} {size most : Int} {vl : Value} (h : QBlk w q size most vl) (hb : Below w.heap.size w w1) : QBlk w1 q size most vl := blk_below h hb
theorem QBlk.lt {w : World} {q : Nat} {size most : Int} {vl : Value} (h : QBlk w q size most vl) : q < w.heap.size := blk_lt h
theorem QBlk.cells {w : World} {q : Nat} {size most : Int} {vl : Value} (h : QBlk w q size most vl) : w.cell? ⟨q, 0, none⟩ = some (.int .i64 size) ∧ w.cell? ⟨q, 1, none⟩ = some (.int .i64 most) ∧ w.cell? ⟨q, 2, none⟩ = some vl :=
  ⟨(blk_cell h 0).trans rfl, (blk_cell h 1).trans rfl, (blk_cell h 2).trans rfl⟩
abbrev RowsR (w : World) (base : Nat) (v : Value) (rows : List (List Value)) : Prop := Kd.R (Kd.raw 10) 39 w base (fun _ => True) v rows
theorem raw_row10 {w : World} {base : Nat} {v : Value} {rows : List (List Value)} (h : RowsR w base v rows) (k : Nat) (r : List Value) (hr : rows[k]? = some r) : r.length = 10 ∧ ∃ g c, v = .slice (some ⟨g, 0, none⟩) rows.length c ∧ ∀ j u, r[j]? = some u → w.cell? ⟨g, k * 10 + j, none⟩ = some u := by
  obtain ⟨A, c, rfl⟩ := Kd.R_slice h
  have hkl := (List.getElem?_eq_some_iff.1 hr).1
  have hrd := Kd.R_reads' h
  obtain ⟨ad, cc, e, hcl, hcK, hcc⟩ := Kd.C_get hrd.2.2 ([] : List Value) (k : Int) (by omega) (by omega)
  subst e
  obtain ⟨g, rfl⟩ := Kd.R_head h
  have h0 := hcK.1
  rw [Int.toNat_natCast, List.getD_eq_getElem?_getD, hr] at h0
  have h1 : cc = r := h0
  refine ⟨by rw [← h1]; exact hcl, g, c, rfl, fun j u hj => ?_⟩
  have := hcc j u (by rw [h1]; exact hj)
  rwa [Int.toNat_natCast, add_plain] at this
def node0 : List Value := [.bool false, .slice none 0 0, .slice none 0 0, .int .i64 0, .int .i64 0, .slice none 0 0, .int .i64 0, .int .i64 0, .int .i64 0, .slice none 0 0]
def NodeOk (w : World) (X : Nat → Prop) : Option Nd → List Value → Prop
  | none, r => r = node0
  | some n, r => RowOf w X n r ∧ 0 < n.f9.length
theorem NodeOk.step {w w1 : World} {X X1 : Nat → Prop} {o : Option Nd} {r : List Value} (h : NodeOk w X o r) (hk : ∀ k, X k → k < w.heap.size → w1.heap[k]? = w.heap[k]?) (hX : ∀ k, X k → X1 k) : NodeOk w1 X1 o r := by
  cases o with
  | none => exact h
  | some n => exact ⟨h.1.step hk hX, h.2⟩
def OwnQ (q : Nat) (vl : Value) (k : Nat) : Prop := k = q ∨ some k = vl.ownBlock
structure RefV (w : World) (base q : Nat) (size most : Int) (vl : Value) (X : Nat → Prop) (rows : List (List Value)) (cs : Cs) : Prop where
  blk : QBlk w q size most vl
  cells : RowsR w base vl rows
  len : rows.length = cs.length
  row : ∀ (i : Nat) (o : Option Nd) (r : List Value), cs[i]? = some o → rows[i]? = some r → NodeOk w X o r
  sep : ∀ k, X k → k < w.heap.size ∧ ¬ OwnQ q vl k
structure RefM (w : World) (base q : Nat) (size most : Int) (vl : Value) (X : Nat → Prop) (cs : Cs) : Prop where
  mem : ∃ rows, RefV w base q size most vl X rows cs
  hb : base ≤ q
  hs : 1 ≤ size ∧ size ≤ 32
  hr : 1 ≤ most ∧ most ≤ 4194304
  hl : (cs.length : Int) ≤ most
theorem RefV.own_lt {w : World} {base q : Nat} {size most : Int} {vl : Value} {X : Nat → Prop} {rows : List (List Value)} {cs : Cs} (h : RefV w base q size most vl X rows cs) (k : Nat) (hk : OwnQ q vl k) : k < w.heap.size := by
  rcases hk with rfl | hk
  · exact h.blk.lt
  · exact Go.Proofs.YtdeneoknjeegbaaDoorW.PrintWords.own_lt (Kd.R_own h.cells).choose_spec k hk.symm
theorem RefV.step {w w1 : World} {base q : Nat} {size most : Int} {vl : Value} {X X1 : Nat → Prop} {rows : List (List Value)} {cs : Cs} (hv : RefV w base q size most vl X rows cs) (hs : w.heap.size ≤ w1.heap.size) (hk : ∀ k, k < w.heap.size → OwnQ q vl k ∨ X k → w1.heap[k]? = w.heap[k]?) (hX : ∀ k, X k → X1 k) (hX1 : ∀ k, X1 k → k < w1.heap.size ∧ ¬ OwnQ q vl k) : RefV w1 base q size most vl X1 rows cs := by
  refine ⟨(hk q hv.blk.lt (.inl (.inl rfl))).trans hv.blk, ?_, hv.len, fun i o r hi hr => (hv.row i o r hi hr).step (fun k hx hl => hk k hl (.inr hx)) hX, hX1⟩
  exact Kd.R_mono (Kd.R_step (Kd.R_reok (ok := fun k => some k = vl.ownBlock) rfl hv.cells (fun k e => e.symm)) (fun k hx hl => hk k hl (.inl (.inr hx)))) (fun _ _ => trivial)
theorem RefV.below {w w1 : World} {base q : Nat} {size most : Int} {vl : Value} {X : Nat → Prop} {rows : List (List Value)} {cs : Cs} (hv : RefV w base q size most vl X rows cs) (hb : Below w.heap.size w w1) : RefV w1 base q size most vl X rows cs :=
  hv.step hb.size (fun k hk _ => hb.block k hk) (fun _ h => h) (fun k hx => ⟨Nat.lt_of_lt_of_le (hv.sep k hx).1 hb.size, (hv.sep k hx).2⟩)
theorem RefM.step {w w1 : World} {base q : Nat} {size most : Int} {vl : Value} {X X1 : Nat → Prop} {cs : Cs} (h : RefM w base q size most vl X cs) (hs : w.heap.size ≤ w1.heap.size) (hk : ∀ k, k < w.heap.size → OwnQ q vl k ∨ X k → w1.heap[k]? = w.heap[k]?) (hX : ∀ k, X k → X1 k) (hX1 : ∀ k, X1 k → k < w1.heap.size ∧ ¬ OwnQ q vl k) : RefM w1 base q size most vl X1 cs := by
  obtain ⟨rows, hv⟩ := h.mem
  exact ⟨⟨rows, hv.step hs hk hX hX1⟩, h.hb, h.hs, h.hr, h.hl⟩
theorem RefM.below {w w1 : World} {base q : Nat} {size most : Int} {vl : Value} {X : Nat → Prop} {cs : Cs} (h : RefM w base q size most vl X cs) (hb : Below w.heap.size w w1) : RefM w1 base q size most vl X cs := by
  obtain ⟨rows, hv⟩ := h.mem
  exact h.step hb.size (fun k hk _ => hb.block k hk) (fun _ h => h) (fun k hx => ⟨Nat.lt_of_lt_of_le (hv.sep k hx).1 hb.size, (hv.sep k hx).2⟩)
theorem RefM.base_le {w : World} {base q : Nat} {size most : Int} {vl : Value} {X : Nat → Prop} {cs : Cs} (h : RefM w base q size most vl X cs) : base ≤ w.heap.size ∧ q < w.heap.size := by
  obtain ⟨rows, hv⟩ := h.mem
  have := hv.blk.lt
  have := h.hb
  omega
def RefP (w w' : World) (base q : Nat) (size most : Int) (vl : Value) (X : Nat → Prop) (cs : Cs) : Prop :=
  ∃ vl' X', RefM w' base q size most vl' X' cs ∧ Grew w (OwnQ q vl) (OwnQ q vl') ∧ Grew w X X' ∧ Kept w w' (OwnQ q vl) ∧ Below base w w'
theorem RefP.of_below {w w' : World} {base q : Nat} {size most : Int} {vl : Value} {X : Nat → Prop} {cs : Cs} (h : RefM w base q size most vl X cs) (hb : Below w.heap.size w w') : RefP w w' base q size most vl X cs :=
  ⟨vl, X, h.below hb, Grew.refl _ _, Grew.refl _ _, Kept.of_below hb _, hb.mono h.base_le.1⟩
theorem RefP.start {w w1 w' : World} {base q : Nat} {size most : Int} {vl : Value} {X X1 : Nat → Prop} {cs : Cs} (h : RefP w1 w' base q size most vl X1 cs) (hX : Grew w X X1) (hB : Below w.heap.size w w1) (hb : base ≤ w.heap.size) : RefP w w' base q size most vl X cs := by
  obtain ⟨vl', X', hM, h1, h2, h3, h4⟩ := h
  exact ⟨vl', X', hM, fun k hk => (h1 k hk).imp id (fun h => Nat.le_trans hB.size h), hX.trans h2 hB.size, (Kept.of_below hB _).then_ h3 (fun k hk => .inl hk), (hB.mono hb).trans h4⟩
set_option maxRecDepth 100000 in
theorem rthere_off {w : World} {q : Nat} {size most : Int} {A : Option Addr} {n c : Nat} (h : QBlk w q size most (.slice A n c)) (i : Int) (hi : i < 0 ∨ (n : Int) ≤ i) :
    Calls Tryd.prog 44 #[.pointer (some ⟨q, 0, none⟩), .int .i64 i] w fun e w' => e = .returned (.bool false) ∧ w = w' := by
  obtain ⟨k0, k1, k2⟩ := h.cells
  by_cases h0 : i < 0
  · have hd : decide (i ≥ 0) = false := decide_eq_false (by omega)
    clear h hi
    go_enter Tryd.func44, Tryd.ntmps44
    go_wp2_with fail
    go_ret
    exact ⟨rfl, rfl⟩
  · have hd : decide (i ≥ 0) = true := decide_eq_true (by omega)
    have hd2 : decide (i < (n : Int)) = false := decide_eq_false (by omega)
    clear h hi
    go_enter Tryd.func44, Tryd.ntmps44
    go_wp2_with fail
    go_ret
    exact ⟨rfl, rfl⟩
set_option maxRecDepth 100000 in
theorem rthere_at {w : World} {q : Nat} {size most : Int} {g n c : Nat} (h : QBlk w q size most (.slice (some ⟨g, 0, none⟩) n c)) (k : Nat) (hk : k < n) (B : Option Addr) (m d : Nat) (hc : w.cell? ⟨g, k * 10 + 9, none⟩ = some (.slice B m d)) :
    Calls Tryd.prog 44 #[.pointer (some ⟨q, 0, none⟩), .int .i64 (k : Int)] w fun e w' => e = .returned (.bool (decide (0 < m))) ∧ w = w' := by
  obtain ⟨k0, k1, k2⟩ := h.cells
  have hd : decide ((k : Int) ≥ 0) = true := decide_eq_true (by omega)
  have hd2 : decide ((k : Int) < (n : Int)) = true := decide_eq_true (by omega)
  have hk3 : (k : Int) < (n : Int) := by omega
  have hk5 : 0 ≤ (k : Int) := by omega
  clear h
  go_enter Tryd.func44, Tryd.ntmps44
  go_wp2_with fail
  go_ret
  exact ⟨rfl, rfl⟩
theorem rthere_calls {w : World} {base q : Nat} {size most : Int} {vl : Value} {X : Nat → Prop} {cs : Cs} (h : RefM w base q size most vl X cs) (i : Int) :
    Calls Tryd.prog 44 #[.pointer (some ⟨q, 0, none⟩), .int .i64 i] w fun e w' => e = .returned (.bool (nodeAt cs i).isSome) ∧ w = w' := by
  obtain ⟨rows, hv⟩ := h.mem
  have hlen := hv.len
  obtain ⟨A, c, rfl⟩ := Kd.R_slice hv.cells
  by_cases h0 : i < 0
  · refine (rthere_off hv.blk i (.inl h0)).mono ?_
    rintro e w' ⟨rfl, rfl⟩
    exact ⟨by unfold nodeAt; rw [if_neg (by omega)]; rfl, rfl⟩
  by_cases h1 : (rows.length : Int) ≤ i
  · refine (rthere_off hv.blk i (.inr h1)).mono ?_
    rintro e w' ⟨rfl, rfl⟩
    exact ⟨by unfold nodeAt; rw [if_pos (by omega), List.getElem?_eq_none (by omega)]; rfl, rfl⟩
  obtain ⟨k, rfl⟩ : ∃ k : Nat, i = (k : Int) := ⟨i.toNat, by omega⟩
  have hk : k < rows.length := by omega
  have hro : rows[k]? = some rows[k] := List.getElem?_eq_getElem hk
  obtain ⟨o, ho⟩ : ∃ o, cs[k]? = some o := ⟨_, List.getElem?_eq_getElem (by omega)⟩
  have hok := hv.row k o _ ho hro
  obtain ⟨_, g, c', e, hc⟩ := raw_row10 hv.cells k _ hro
  injection e with e1 e2 e3
  subst e1
  have hn : nodeAt cs (k : Int) = o := by
    unfold nodeAt
    rw [if_pos (by omega), Int.toNat_natCast, ho]
    rfl
  rw [hn]
  cases o with
  | none =>
    have hr : rows[k] = node0 := hok
    refine (rthere_at hv.blk k hk none 0 0 (hc 9 _ (by rw [hr]; rfl))).mono ?_
    rintro e w' ⟨rfl, rfl⟩
    exact ⟨rfl, rfl⟩
  | some n =>
    obtain ⟨⟨A1, A2, A5, A9, c1, c2, c5, c9, hr, _⟩, h9⟩ := hok
    refine (rthere_at hv.blk k hk A9 n.f9.length c9 (hc 9 _ (by rw [hr]; rfl))).mono ?_
    rintro e w' ⟨rfl, rfl⟩
    exact ⟨by rw [decide_eq_true h9]; rfl, rfl⟩
theorem usedN_take : ∀ (cs : Cs) (j : Nat) (o : Option Nd), cs[j]? = some o → usedN (cs.take (j + 1)) = usedN (cs.take j) + (if o.isSome then 1 else 0)
  | [], j, o, h => by simp at h
  | x :: r, 0, o, h => by
    obtain rfl : x = o := by simpa using h
    cases x <;> rfl
  | none :: r, j + 1, o, h => by
    simp only [List.take_succ_cons, usedN]
    exact usedN_take r j o (by simpa using h)
  | some _ :: r, j + 1, o, h => by
    simp only [List.take_succ_cons, usedN]
    rw [usedN_take r j o (by simpa using h)]
    omega
theorem nodeAt_get {cs : Cs} {j : Nat} {o : Option Nd} (h : cs[j]? = some o) : nodeAt cs (j : Int) = o := by
  unfold nodeAt
  rw [if_pos (by omega), Int.toNat_natCast, h]
  rfl
set_option maxHeartbeats 4000000 in
set_option maxRecDepth 100000 in
theorem rused_calls {w : World} {base q : Nat} {size most : Int} {vl : Value} {X : Nat → Prop} {cs : Cs} (h : RefM w base q size most vl X cs) :
    Calls Tryd.prog 23 #[.pointer (some ⟨q, 0, none⟩)] w fun e w' => e = .returned (.int .i64 (usedN cs : Int)) ∧ w = w' := by
  have HM := Aside0.mk h
  obtain ⟨rows, hv⟩ := h.mem
  obtain ⟨A, c, rfl⟩ := Kd.R_slice hv.cells
  obtain ⟨n, hn⟩ : ∃ n, n = rows.length := ⟨_, rfl⟩
  have HN := Aside0.mk (show n = cs.length ∧ n ≤ 4194304 from ⟨hn.trans hv.len, by have := hv.len; have := h.hl; have := h.hr; omega⟩)
  have hb := hv.blk
  rw [← hn] at hb
  obtain ⟨k0, k1, k2⟩ := hb.cells
  clear h hv hb hn
  go_enter Tryd.func23, Tryd.ntmps23
  go_wp2_with fail
  go_loopw [3, 10] (fun v3 v10 wr => ∃ j : Nat, j ≤ n ∧ v10 = .int .i64 (j : Int) ∧ v3 = .int .i64 (usedN (cs.take j) : Int) ∧ w = wr) (fun _ v10 _ => n - (intOf v10).toNat)
  case atStart => exact ⟨0, by omega, rfl, rfl, rfl⟩
  case round =>
    obtain ⟨j, hj, rfl, rfl, rfl⟩ := hrel
    obtain ⟨u, hu⟩ : ∃ u, u = usedN (cs.take j) := ⟨_, rfl⟩
    have HU := Aside0.mk (show u = usedN (cs.take j) ∧ u ≤ j from ⟨hu, by rw [hu]; have h1 := usedN_le (cs.take j); have h2 := List.length_take_le j cs; omega⟩)
    rw [← hu]
    clear hu
    by_cases h0 : j < n
    · have hd : decide ((j : Int) < (n : Int)) = true := decide_eq_true (by omega)
      have hw : wrap64 ((j : Int) + 1) = ((j + 1 : Nat) : Int) := by unfold wrap64; have := HN.out; omega
      have hw2 : wrap64 ((u : Int) + 1) = ((u + 1 : Nat) : Int) := by unfold wrap64; have := HN.out; have := HU.out; omega
      obtain ⟨o, ho⟩ : ∃ o, cs[j]? = some o := ⟨_, List.getElem?_eq_getElem (by have := HN.out; omega)⟩
      have HT := Aside0.mk (usedN_take cs j o ho)
      obtain ⟨b, hb⟩ : ∃ b, b = o.isSome := ⟨_, rfl⟩
      have HB := Aside0.mk hb
      have HTH := Aside0.mk (show Calls Tryd.prog 44 #[.pointer (some ⟨q, 0, none⟩), .int .i64 (j : Int)] w fun e w' => e = .returned (.bool b) ∧ w = w' from by
        have := rthere_calls HM.out (j : Int)
        rwa [nodeAt_get ho, ← hb] at this)
      clear ho hb
      go_wp2_with fail
      refine HTH.out.mono ?_
      rintro e w' ⟨rfl, rfl⟩
      cases b with
      | true =>
        go_wp2_with fail
        go_roundw
        case measure =>
          rw [hw]
          simp only [intOf, Int.toNat_natCast]
          omega
        case rel => exact ⟨j + 1, by omega, by rw [hw], by rw [hw2, HT.out, HU.out.1, ← HB.out, if_pos rfl], trivial⟩
      | false =>
        go_wp2_with fail
        go_roundw
        case measure =>
          rw [hw]
          simp only [intOf, Int.toNat_natCast]
          omega
        case rel => exact ⟨j + 1, by omega, by rw [hw], by rw [HT.out, HU.out.1, ← HB.out, if_neg (by decide)]; rfl, trivial⟩
    · obtain rfl : j = n := by omega
      have hd : decide ((j : Int) < (j : Int)) = false := decide_eq_false (by omega)
      clear h0 hj
      go_wp2_with fail
      go_ret
      exact ⟨by rw [HU.out.1, List.take_of_length_le (by have := HN.out; omega)]; rfl, rfl⟩
end Go.Proofs.YtdeneoknjeegbaaDoor.P
end
section
set_option linter.unusedVariables false
set_option linter.unusedSimpArgs false
namespace Go.Proofs.YtdeneoknjeegbaaDoor.P
open Go.RowKit Go.Proofs.YtdeneoknjeegbaaDoorW.PrintWords Go.Proofs.YtdeneoknjeegbaaDoorW.PrintLast Go.Proofs.YtdeneoknjeegbaaDoorW.PrintMore
def rput_T10 : Bool × List (List Nat × List Nat) := (true, [([], []), ([], []), ([1], [1]), ([2], [2]), ([3], [3]), ([], []), ([5], [5]), ([4, 6], [4, 6]), ([0, 0, 1, 2, 3, 4, 5, 6, 7], [0]), ([8, 0, 1, 2, 3, 4, 5, 6, 7], [8]), ([9, 7, 7, 0, 1, 2, 3, 4, 5, 6, 7], [7, 9])])
def rput_B10 : List Nat := [0, 0, 2, 6, 14, 0, 32, 126, 255, 511, 1023]
theorem rput_tab10 : rtab .any (opsOf Tryd.f75 10) = rput_T10 := by kernel_rfl
theorem rput_bits10 : waitsOk rput_T10.2 rput_B10 = true := by kernel_rfl
theorem QBlk.set2 {w : World} {q : Nat} {size most : Int} {vl : Value} (h : QBlk w q size most vl) (v : Value) : QBlk (w.setCell ⟨q, 2, none⟩ v) q size most v := by
  unfold QBlk at *
  rw [blk_set h 2 v]
  rfl
theorem row_step {ops : Array Oper} {rest : List Oper} {o : Oper} {a : Act} {Q : Exit → Act → World → Prop} {W : World} (base : Nat) (hN : o.dst = none) (hgd : o.guard = none) (p x : Operand) (ho : o.op = .store 39 p x) {g n cap : Nat} (j : Nat) (rows : List (List Value)) (r : List Value) (u : Value)
    (haddr : a.eval p = .pointer (some ⟨g, j * 10, none⟩)) (hx : a.eval x = u) (hu : u.cells.toList = r) (hrl : r.length = 10) (h1 : ∀ q ∈ r, q.oneCell' = true) (HO : RowsR W base (.slice (some ⟨g, 0, none⟩) n cap) rows) (hj : j < n)
    (h : ∀ w1, RowsR w1 base (.slice (some ⟨g, 0, none⟩) n cap) (rows.set j r) → Below base W w1 → W.grownBy w1 (some g) → wpList Tryd.prog ops Q rest a w1) : wpList Tryd.prog ops Q (o :: rest) a W := by
  have hn := (Kd.R_reads' HO).1
  have hro : rows[j]? = some (rows[j]'(by omega)) := List.getElem?_eq_getElem (by omega)
  obtain ⟨hl10, g', c', e, hc⟩ := raw_row10 HO j _ hro
  injection e with e1 e2 e3
  injection e1 with e1
  injection e1 with e1
  subst e1
  refine Kd.R_store (Kd.raw 10) (w0 := W) base hN hgd 39 p x ho 39 (g := g) (n := n) (cap := cap) (o' := j * 10) (j : Int) 0 rows r u r (rows[j]'(by omega)) (fun _ => True) (fun _ => False) haddr (by rw [Int.toNat_natCast]; rfl) hx hu (by rw [hrl]; kernel_rfl) h1 HO (by omega) (by omega) hl10 (fun jj u hu => ?_) (by rw [hrl]; exact Nat.le_refl 10) ?_ (fun _ h => h.elim) (Below.refl _ _) (fun w1 hR hB hg => ?_)
  · rw [Int.toNat_natCast]
    exact hc jj u hu
  · have h2 : (rows[j]'(by omega)).take 0 ++ r ++ (rows[j]'(by omega)).drop (0 + r.length) = r := by
      rw [List.drop_of_length_le (by omega)]
      simp
    rw [h2]
    exact ⟨rfl, hrl, h1⟩
  · rw [Int.toNat_natCast] at hR
    exact h w1 hR hB hg
theorem RefM.putAt {w w1 : World} {base q : Nat} {size most : Int} {vl : Value} {X : Nat → Prop} {rows : List (List Value)} {cs : Cs} (h : RefM w base q size most vl X cs) (hv : RefV w base q size most vl X rows cs) (n : Nd) (r : List Value) (hlt : lowN cs < cs.length) (hrow : NodeOk w X (some n) r) (hR : RowsR w1 base vl (rows.set (lowN cs) r)) (hg : w.grownBy w1 vl.ownBlock) (hB : Below base w w1) : RefP w w1 base q size most vl X (putC cs n) := by
  have hqv : some q ≠ vl.ownBlock := Kd.R_ne hv.cells hv.blk (by decide)
  have hT : Kept w w1 (OwnQ q vl) := ⟨hg.size, fun x hx hn => hg.block x hx (fun e => hn (.inr e))⟩
  have hXs : ∀ k, X k → k < w.heap.size → w1.heap[k]? = w.heap[k]? := fun k hx hl => hT.2 k hl (hv.sep k hx).2
  refine ⟨vl, X, ⟨⟨_, (hg.block q hv.blk.lt hqv).trans hv.blk, hR, ?_, ?_, fun k hx => ⟨Nat.lt_of_lt_of_le (hv.sep k hx).1 hg.size, (hv.sep k hx).2⟩⟩, h.hb, h.hs, h.hr, ?_⟩, Grew.refl _ _, Grew.refl _ _, hT, hB⟩
  · unfold putC
    rw [if_pos hlt, List.length_set, List.length_set, hv.len]
  · intro i o r' hi hro
    unfold putC at hi
    rw [if_pos hlt] at hi
    by_cases hie : i = lowN cs
    · subst hie
      rw [List.getElem?_set_self hlt] at hi
      rw [List.getElem?_set_self (by rw [hv.len]; exact hlt)] at hro
      obtain rfl := Option.some.inj hi
      obtain rfl := Option.some.inj hro
      exact hrow.step hXs (fun _ h => h)
    · rw [List.getElem?_set_ne (Ne.symm hie)] at hi
      rw [List.getElem?_set_ne (Ne.symm hie)] at hro
      exact (hv.row i o r' hi hro).step hXs (fun _ h => h)
  · rw [putC_length, if_pos hlt]
    exact h.hl
theorem RefM.putEnd {w w1 : World} {base q : Nat} {size most : Int} {vl v1 : Value} {X : Nat → Prop} {rows : List (List Value)} {cs : Cs} (h : RefM w base q size most vl X cs) (hv : RefV w base q size most vl X rows cs) (n : Nd) (r : List Value) (hlow : lowN cs = cs.length) (hroom : (cs.length : Int) < most) (hrow : NodeOk w X (some n) r) (hb1 : QBlk w1 q size most v1) (hR : RowsR w1 base v1 (rows ++ [r])) (hat : v1.ownBlock = vl.ownBlock ∨ ∃ b, v1.ownBlock = some b ∧ w.heap.size ≤ b) (hk : Kept w w1 (OwnQ q vl)) (hB : Below base w w1) : RefP w w1 base q size most vl X (putC cs n) := by
  have hgr : Grew w (OwnQ q vl) (OwnQ q v1) := fun x hx => by
    rcases hx with hx | hx
    · exact .inl (.inl hx)
    · rcases hat with h1 | ⟨b, h1, h2⟩
      · exact .inl (.inr (hx.trans h1))
      · rw [h1] at hx
        obtain rfl := Option.some.inj hx
        exact .inr h2
  have hXs : ∀ k, X k → k < w.heap.size → w1.heap[k]? = w.heap[k]? := fun k hx hl => hk.2 k hl (hv.sep k hx).2
  have hlen := hv.len
  refine ⟨v1, X, ⟨⟨_, hb1, hR, ?_, ?_, fun k hx => ⟨Nat.lt_of_lt_of_le (hv.sep k hx).1 hk.1, fun ho => (hgr k ho).elim (hv.sep k hx).2 (fun h1 => by have := (hv.sep k hx).1; omega)⟩⟩, h.hb, h.hs, h.hr, ?_⟩, hgr, Grew.refl _ _, hk, hB⟩
  · unfold putC
    rw [if_neg (by omega)]
    simp [hlen]
  · intro i o r' hi hro
    unfold putC at hi
    rw [if_neg (by omega)] at hi
    rcases Nat.lt_or_ge i cs.length with h2 | h2
    · rw [List.getElem?_append_left h2] at hi
      rw [List.getElem?_append_left (by omega)] at hro
      exact (hv.row i o r' hi hro).step hXs (fun _ h => h)
    · rw [List.getElem?_append_right h2] at hi
      rw [List.getElem?_append_right (by omega)] at hro
      have h3 : i - cs.length = 0 := by
        rcases Nat.eq_zero_or_pos (i - cs.length) with h3 | h3
        · exact h3
        · rw [List.getElem?_eq_none (by simp; omega)] at hi
          cases hi
      rw [h3] at hi
      rw [hlen, h3] at hro
      obtain rfl : some n = o := by simpa using hi
      obtain rfl := Option.some.inj hro
      exact hrow.step hXs (fun _ h => h)
  · rw [putC_length, if_neg (by omega)]
    omega
theorem lowN_some : ∀ (cs : Cs) (j : Nat), j < lowN cs → ∃ n, cs[j]? = some (some n)
  | [], j, h => by simp [lowN] at h
  | none :: r, j, h => by simp [lowN] at h
  | some x :: r, 0, h => ⟨x, rfl⟩
  | some _ :: r, j + 1, h => by
    simp only [lowN] at h
    simp only [List.getElem?_cons_succ]
    exact lowN_some r j (by omega)
theorem usedN_full : ∀ cs : Cs, lowN cs = cs.length → usedN cs = cs.length
  | [], _ => rfl
  | none :: r, h => by simp [lowN] at h
  | some _ :: r, h => by
    simp only [lowN, List.length_cons] at h
    simp only [usedN, List.length_cons]
    rw [usedN_full r (by omega)]
structure RPutPost (w w' : World) (base q : Nat) (size most : Int) (vl : Value) (X : Nat → Prop) (cs : Cs) (n : Nd) (e : Ending) : Prop where
  full : (usedN cs : Int) = most → e = .returned (.tuple #[.int .i64 0, .int .i64 4]) ∧ RefP w w' base q size most vl X cs
  more : (usedN cs : Int) ≠ most → e = .returned (.tuple #[.int .i64 (lowN cs : Int), .int .i64 0]) ∧ RefP w w' base q size most vl X (putC cs n)
set_option maxHeartbeats 8000000 in
set_option maxRecDepth 100000 in
theorem rput_calls {w : World} {base q : Nat} {size most : Int} {vl : Value} {X : Nat → Prop} {cs : Cs} (h : RefM w base q size most vl X cs) (n : Nd) (h9 : 0 < n.f9.length) (A1 A2 A5 A9 : Option Addr) (c1 c2 c5 c9 : Nat)
    (b1 : BX w X (.slice A1 n.f1.length c1) n.f1) (b2 : BX w X (.slice A2 n.f2.length c2) n.f2) (b5 : BX w X (.slice A5 n.f5.length c5) n.f5) (b9 : BX w X (.slice A9 n.f9.length c9) n.f9) :
    Calls Tryd.prog 75 #[.pointer (some ⟨q, 0, none⟩), .agg #[.bool n.f0, .slice A1 n.f1.length c1, .slice A2 n.f2.length c2, .int .i64 n.f3, .int .i64 n.f4, .slice A5 n.f5.length c5, .int .i64 n.f6, .int .i64 n.f7, .int .i64 n.f8, .slice A9 n.f9.length c9]] w
      fun e w' => RPutPost w w' base q size most vl X cs n e := by
  have HM := Aside0.mk h
  have HBW := Aside0.mk h.base_le
  have hrow : NodeOk w X (some n) [.bool n.f0, .slice A1 n.f1.length c1, .slice A2 n.f2.length c2, .int .i64 n.f3, .int .i64 n.f4, .slice A5 n.f5.length c5, .int .i64 n.f6, .int .i64 n.f7, .int .i64 n.f8, .slice A9 n.f9.length c9] := ⟨⟨A1, A2, A5, A9, c1, c2, c5, c9, rfl, b1, b2, b5, b9⟩, h9⟩
  have HROW := Aside0.mk hrow
  have HONE := Aside0.mk (show ∀ q ∈ ([.bool n.f0, .slice A1 n.f1.length c1, .slice A2 n.f2.length c2, .int .i64 n.f3, .int .i64 n.f4, .slice A5 n.f5.length c5, .int .i64 n.f6, .int .i64 n.f7, .int .i64 n.f8, .slice A9 n.f9.length c9] : List Value), q.oneCell' = true from by intro q hq; simp only [List.mem_cons, List.not_mem_nil, or_false] at hq; rcases hq with rfl | rfl | rfl | rfl | rfl | rfl | rfl | rfl | rfl | rfl <;> rfl)
  have HL := Aside0.mk (show cs.length ≤ 4194304 ∧ usedN cs ≤ cs.length from ⟨by have := h.hl; have := h.hr; omega, usedN_le cs⟩)
  obtain ⟨u, hu⟩ : ∃ u, u = usedN cs := ⟨_, rfl⟩
  have HU := Aside0.mk hu
  clear h b1 b2 b5 b9 hrow h9 hu
  go_enter Tryd.func75, Tryd.ntmps75
  go_wp2_with fail
  obtain ⟨W1, hW1⟩ : ∃ W1, W1 = w.alloc (.cells #[.bool n.f0, .slice A1 n.f1.length c1, .slice A2 n.f2.length c2, .int .i64 n.f3, .int .i64 n.f4, .slice A5 n.f5.length c5, .int .i64 n.f6, .int .i64 n.f7, .int .i64 n.f8, .slice A9 n.f9.length c9] 39) := ⟨_, rfl⟩
  rw [← hW1]
  have hb1 : Below w.heap.size w W1 := by rw [hW1]; exact below_alloc (Below.refl _ _) _
  obtain ⟨gb, hgb⟩ : ∃ gb, gb = w.heap.size := ⟨_, rfl⟩
  have HGB0 := Aside0.mk hgb
  have HN1 := Aside0.mk (show W1.heap[gb]? = some (.cells #[.bool n.f0, .slice A1 n.f1.length c1, .slice A2 n.f2.length c2, .int .i64 n.f3, .int .i64 n.f4, .slice A5 n.f5.length c5, .int .i64 n.f6, .int .i64 n.f7, .int .i64 n.f8, .slice A9 n.f9.length c9] 39 (0, 0)) from by rw [hW1, hgb]; exact heap_alloc_new w _)
  have HB1 := Aside0.mk hb1
  have HM1 := Aside0.mk (HM.out.below hb1)
  rw [← hgb]
  clear hgb hW1 hb1
  have HUC := Aside0.mk (show ∀ m, Calls Tryd.prog 23 #[.pointer (some ⟨q, 0, none⟩)] (W1.drewN m) fun e w' => e = .returned (.int .i64 (u : Int)) ∧ Drawn0 (W1.drewN m) w' from fun m => by
    rw [HU.out]
    refine (rused_calls (w := W1.drewN m) (HM1.out.below (pw_below_drewN (Below.refl _ _) m))).mono ?_
    rintro e w' ⟨rfl, rfl⟩
    exact ⟨rfl, ⟨0, rfl⟩⟩)
  obtain ⟨rows, hv⟩ := HM1.out.mem
  obtain ⟨A, c, hvl⟩ := Kd.R_slice hv.cells
  obtain ⟨m, hm⟩ : ∃ m, m = rows.length := ⟨_, rfl⟩
  rw [← hm] at hvl
  have HML := Aside0.mk (show m = cs.length ∧ m = rows.length ∧ m ≤ 4194304 from ⟨hm.trans hv.len, hm, by have := hv.len; have := HL.out; omega⟩)
  have HV := Aside0.mk hv
  have HVL := Aside0.mk hvl
  have hb := hv.blk
  rw [hvl] at hb
  have HQ := Aside0.mk hb
  obtain ⟨k0, k1, k2⟩ := hb.cells
  have HGV := Aside0.mk (show some gb ≠ vl.ownBlock from fun e => by
    have h1 := HGB0.out
    obtain ⟨rows0, hv0⟩ := HM.out.mem
    have := hv0.own_lt gb (.inr e)
    omega)
  clear hm hvl hb hv
  go_quiet ((go_at_call 23; (first | with_reducible exact drawn2_quiet (HUC.out _) | with_reducible exact drawn1_quiet (HUC.out _) | exact drawn0_quiet (HUC.out 0))))
  by_cases hfull : (u : Int) = most
  · have hd : decide ((u : Int) ≥ most) = true := decide_eq_true (by omega)
    have hd2 : decide (most ≤ (u : Int)) = true := decide_eq_true (by omega)
    have HF := Aside0.mk hfull
    have hle : most ≤ (u : Int) := by omega
    clear hfull
    go_wp2_with fail
    go_ret2
    refine ⟨fun _ => ⟨rfl, RefP.of_below HM.out ?_⟩, fun hn => absurd (by rw [← HU.out]; exact HF.out) hn⟩
    first | exact HB1.out | exact pw_below_drewN HB1.out _
  · have hlt : (u : Int) < most := by have h1 := HL.out; have h2 := HM.out.hl; have := HU.out; omega
    have hd : decide ((u : Int) ≥ most) = false := decide_eq_false (by omega)
    have hd2 : decide (most ≤ (u : Int)) = false := decide_eq_false (by omega)
    have HNF := Aside0.mk hfull
    clear hfull
    go_wp2_with fail
    obtain ⟨W2, hW2⟩ : ∃ W2, W2 = W1.drewN nq := ⟨_, rfl⟩
    rw [← hW2]
    have hb2 : Below W1.heap.size W1 W2 := by rw [hW2]; exact pw_below_drewN (Below.refl _ _) _
    have HM2 := Aside0.mk (HM1.out.below hb2)
    have HV2 := Aside0.mk (show RefV W2 base q size most vl X rows cs from HV.out.below hb2)
    have HQ2 := Aside0.mk (HQ.out.below hb2)
    have HN2 := Aside0.mk (blk_below HN1.out hb2)
    have HB2 := Aside0.mk (show Below w.heap.size w W2 from HB1.out.trans (hb2.mono HB1.out.size))
    clear hW2 hb2 HUC HM1 HV HQ HN1 HB1 k0 k1 k2 hd hd2
    obtain ⟨k0, k1, k2⟩ := HQ2.out.cells
    go_loopw [19] (fun v19 wr => ∃ j : Nat, j ≤ lowN cs ∧ j ≤ m ∧ v19 = .int .i64 (j : Int) ∧ W2 = wr) (fun v19 _ => m - (intOf v19).toNat)
    case atStart => exact ⟨0, by omega, by omega, rfl, rfl⟩
    case round =>
      obtain ⟨j, hjl, hj, rfl, rfl⟩ := hrel
      by_cases h0 : j < m
      · have hdj : decide ((j : Int) < (m : Int)) = true := decide_eq_true (by omega)
        have hw : wrap64 ((j : Int) + 1) = ((j + 1 : Nat) : Int) := by unfold wrap64; have := HML.out; omega
        by_cases hl2 : j < lowN cs
        · obtain ⟨nd, hnd⟩ := lowN_some cs j hl2
          have HTH := Aside0.mk (show Calls Tryd.prog 44 #[.pointer (some ⟨q, 0, none⟩), .int .i64 (j : Int)] W2 fun e w' => e = .returned (.bool true) ∧ W2 = w' from by
            have := rthere_calls HM2.out (j : Int)
            rwa [nodeAt_get hnd] at this)
          clear hnd
          go_wp2_with fail
          refine HTH.out.mono ?_
          rintro e w' ⟨rfl, rfl⟩
          go_wp2_with fail
          go_roundw
          case measure =>
            rw [hw]
            simp only [intOf, Int.toNat_natCast]
            omega
          case rel => exact ⟨j + 1, by omega, by omega, by rw [hw], trivial⟩
        · obtain rfl : j = lowN cs := by omega
          have hlc : lowN cs < cs.length := by have := HML.out; omega
          have HTH := Aside0.mk (show Calls Tryd.prog 44 #[.pointer (some ⟨q, 0, none⟩), .int .i64 (lowN cs : Int)] W2 fun e w' => e = .returned (.bool false) ∧ W2 = w' from by
            have := rthere_calls HM2.out (lowN cs : Int)
            rwa [nodeAt_get (lowN_none cs hlc)] at this)
          have HLC := Aside0.mk hlc
          obtain ⟨j, hje⟩ : ∃ j, j = lowN cs := ⟨_, rfl⟩
          have HJE := Aside0.mk hje
          rw [← hje] at h0 hdj HTH ⊢
          clear hje hlc hl2 hjl hj hw
          go_wp2_with fail
          refine HTH.out.mono ?_
          rintro e w' ⟨rfl, rfl⟩
          go_wp2_with fail
          have hqq : (j : Int) < (m : Int) := by omega
          have hq0 : 0 ≤ (j : Int) := by omega
          obtain ⟨g, hgA⟩ : ∃ g, A = some ⟨g, 0, none⟩ := by
            have hro : rows[j]? = some (rows[j]'(by have := HML.out; omega)) := List.getElem?_eq_getElem _
            obtain ⟨_, g, c', e, _⟩ := raw_row10 HV2.out.cells j _ hro
            rw [HVL.out] at e
            injection e with e1 _ _
            exact ⟨g, e1⟩
          subst hgA
          refine still_tail_at 7 (by kernel_rfl) (by kernel_rfl) (fun W hW => ?_)
          have hbw : Below W2.heap.size W2 W := by rw [hW]; exact below_drew (Below.refl _ _)
          have HM3 := Aside0.mk (HM2.out.below hbw)
          have HV3 := Aside0.mk (HV2.out.below hbw)
          have HQ3 := Aside0.mk (HQ2.out.below hbw)
          have HN3 := Aside0.mk (blk_below HN2.out hbw)
          have HB3 := Aside0.mk (HB2.out.trans (hbw.mono HB2.out.size))
          clear hW hbw k0 k1 k2 h0 hdj
          obtain ⟨k0, k1, k2⟩ := HQ3.out.cells
          have m0 := blk_cell HN3.out 0
          have m1 := blk_cell HN3.out 1
          have m2 := blk_cell HN3.out 2
          have m3 := blk_cell HN3.out 3
          have m4 := blk_cell HN3.out 4
          have m5 := blk_cell HN3.out 5
          have m6 := blk_cell HN3.out 6
          have m7 := blk_cell HN3.out 7
          have m8 := blk_cell HN3.out 8
          have m9 := blk_cell HN3.out 9
          simp only [List.take_succ_cons, List.take_zero, List.drop_succ_cons, List.drop_zero]
          repeat still_step
          refine wpStill_nil ?_
          clear k0 k1 k2 m0 m1 m2 m3 m4 m5 m6 m7 m8 m9
          have hcells := HV3.out.cells
          rw [HVL.out] at hcells
          refine row_step base rfl rfl (.tmp 32) (.tmp 31) rfl (g := g) (n := m) (cap := c) j rows [.bool n.f0, .slice A1 n.f1.length c1, .slice A2 n.f2.length c2, .int .i64 n.f3, .int .i64 n.f4, .slice A5 n.f5.length c5, .int .i64 n.f6, .int .i64 n.f7, .int .i64 n.f8, .slice A9 n.f9.length c9] (.agg #[.bool n.f0, .slice A1 n.f1.length c1, .slice A2 n.f2.length c2, .int .i64 n.f3, .int .i64 n.f4, .slice A5 n.f5.length c5, .int .i64 n.f6, .int .i64 n.f7, .int .i64 n.f8, .slice A9 n.f9.length c9]) rfl rfl rfl rfl HONE.out hcells (by omega) (fun w4 hR4 hE4 hG4 => ?_)
          rw [HJE.out] at hR4
          rw [show some g = vl.ownBlock from by rw [HVL.out, own_some]] at hG4
          rw [← HVL.out] at hR4
          have hX3 : NodeOk W X (some n) [.bool n.f0, .slice A1 n.f1.length c1, .slice A2 n.f2.length c2, .int .i64 n.f3, .int .i64 n.f4, .slice A5 n.f5.length c5, .int .i64 n.f6, .int .i64 n.f7, .int .i64 n.f8, .slice A9 n.f9.length c9] := HROW.out.step (fun k hx hl => HB3.out.block k hl) (fun _ h => h)
          have HP := Aside0.mk (RefM.putAt HM3.out HV3.out n _ HLC.out hX3 hR4 hG4 hE4)
          clear hR4 hE4 hG4 hX3 hcells
          go_wp2_with fail
          go_ret2
          refine ⟨fun hn => absurd (by rw [HU.out]; exact hn) HNF.out, fun _ => ⟨by rw [HJE.out]; rfl, ?_⟩⟩
          exact RefP.start HP.out (Grew.refl _ _) HB3.out HBW.out.1
      · obtain rfl : j = m := by omega
        have hdj : decide ((j : Int) < (j : Int)) = false := decide_eq_false (by omega)
        have HLOW := Aside0.mk (show lowN cs = cs.length from by have := lowN_le cs; have := HML.out; omega)
        have HR2 := Aside0.mk (show RowsR W2 base (.slice A j c) rows from by have := HV2.out.cells; rwa [HVL.out] at this)
        have HROOM := Aside0.mk (show (cs.length : Int) < most from by
          have h1 := usedN_full cs HLOW.out
          have := HU.out
          omega)
        clear h0 hjl hj hdj hlt
        obtain ⟨m, hmj⟩ : ∃ m, m = j := ⟨_, rfl⟩
        rw [← hmj] at HML HVL HQ2 HR2 k2 ⊢
        have hdm : decide ((m : Int) < (m : Int)) = false := decide_eq_false (by omega)
        clear hmj
        go_wp2_with fail
        have hbd := below_drew (Below.refl W2.heap.size W2)
        have HM3 := Aside0.mk (HQ2.out.below hbd)
        have HN3 := Aside0.mk (blk_below HN2.out hbd)
        have HR3 := Aside0.mk (Kd.R_below HR2.out hbd)
        have HB3 := Aside0.mk hbd
        have HGB := Aside0.mk (show some gb ≠ (Value.slice A m c).ownBlock from by rw [← HVL.out]; exact HGV.out)
        clear hbd k0 k1 k2
        refine start_ (n := 11) (S := fun w' => w'.cell? ⟨q, 2, none⟩ = some (.slice A m c) ∧ w'.heap[gb]? = some (.cells #[.bool n.f0, .slice A1 n.f1.length c1, .slice A2 n.f2.length c2, .int .i64 n.f3, .int .i64 n.f4, .slice A5 n.f5.length c5, .int .i64 n.f6, .int .i64 n.f7, .int .i64 n.f8, .slice A9 n.f9.length c9] 39 (0, 0))) (ds := [10]) #[false, false, false, false, false, false, false, false, false, false, false] (by kernel_rfl) rfl rfl ⟨HM3.out.cells.2.2, HN3.out⟩ (fun hHeld => ?_); refine with_tabW rput_tab10 rput_bits10 (fun HT_ HW_ => ?_)
        generalize hgw : W2.drew = w4 at HM3 HN3 HR3 HB3 hHeld ⊢
        clear hgw
        refine pure_ (i := 0) (N := some 35) (v := ?_) (a' := ?_) #[true, false, false, false, false, false, false, false, false, false, false] rfl rfl (any_of HT_.out (by kernel_rfl)) (fun _ _ _ h => h) (Or.inl ⟨by rfl, ?_⟩) ?_ ?_
        rotate_left
        · intro w'
          go_simp
          with_reducible rfl
        rotate_left
        · simp only [Act.put, List.setIfInBounds_toArray, List.set_cons_zero, List.set_cons_succ, i64_w, i32_w]
          rfl
        refine pure_ (i := 1) (N := some 36) (v := ?_) (a' := ?_) #[true, true, false, false, false, false, false, false, false, false, false] rfl rfl (any_of HT_.out (by kernel_rfl)) (fun _ _ _ h => h) (Or.inl ⟨by rfl, ?_⟩) ?_ ?_
        rotate_left
        · intro w'
          go_simp
          with_reducible rfl
        rotate_left
        · simp only [Act.put, List.setIfInBounds_toArray, List.set_cons_zero, List.set_cons_succ, i64_w, i32_w]
          rfl
        refine pure_ (i := 2) (N := some 37) (v := ?_) (a' := ?_) #[true, true, true, false, false, false, false, false, false, false, false] rfl rfl (any_of HT_.out (by kernel_rfl)) (fun _ _ _ h => h) (Or.inl ⟨by rfl, ?_⟩) ?_ ?_
        rotate_left
        · intro w'
          go_simp
          with_reducible rfl
        rotate_left
        · simp only [Act.put, List.setIfInBounds_toArray, List.set_cons_zero, List.set_cons_succ, i64_w, i32_w]
          rfl
        refine pure_ (i := 3) (N := some 38) (v := ?_) (a' := ?_) #[true, true, true, true, false, false, false, false, false, false, false] rfl rfl (any_of HT_.out (by kernel_rfl)) (fun _ _ _ h => h) (Or.inl ⟨by rfl, ?_⟩) ?_ ?_
        rotate_left
        · intro w'
          go_simp
          with_reducible rfl
        rotate_left
        · simp only [Act.put, List.setIfInBounds_toArray, List.set_cons_zero, List.set_cons_succ, i64_w, i32_w]
          rfl
        refine take_ (i := 4) (N := some 39) (v := ?_) (a' := ?_) #[true, true, true, true, true, false, false, false, false, false, false] rfl rfl (take_ofW HT_.out HW_.out (by kernel_rfl)) (fun _ _ _ h => h) (Or.inl ⟨by rfl, ?_⟩) hHeld ?_ ?_
        rotate_left
        · rintro w' ⟨s0, s1⟩
          go_simp
          with_reducible rfl
        rotate_left
        · simp only [Act.put, List.setIfInBounds_toArray, List.set_cons_zero, List.set_cons_succ, i64_w, i32_w]
          rfl
        refine take_ (i := 5) (N := some 40) (v := ?_) (a' := ?_) #[true, true, true, true, true, true, false, false, false, false, false] rfl rfl (take_ofW HT_.out HW_.out (by kernel_rfl)) (fun _ _ _ h => h) (Or.inl ⟨by rfl, ?_⟩) hHeld ?_ ?_
        rotate_left
        · rintro w' s_
          obtain ⟨s0, s1⟩ := s_
          have m0 := blk_cell s1 0
          have m1 := blk_cell s1 1
          have m2 := blk_cell s1 2
          have m3 := blk_cell s1 3
          have m4 := blk_cell s1 4
          have m5 := blk_cell s1 5
          have m6 := blk_cell s1 6
          have m7 := blk_cell s1 7
          have m8 := blk_cell s1 8
          have m9 := blk_cell s1 9
          go_simp
          with_reducible rfl
        rotate_left
        · simp only [Act.put, List.setIfInBounds_toArray, List.set_cons_zero, List.set_cons_succ, i64_w, i32_w]
          rfl
        refine one_ (i := 6) (N := some 41) #[true, true, true, true, true, true, true, false, false, false, false] rfl rfl (one_of HT_.out (by kernel_rfl)) (by decide) (fun K hK => ?_)
        refine value_ (v := .slice (some ⟨w4.heap.size, 0, none⟩) 1 1) (w1 := w4.alloc (.cells #[.bool n.f0, .slice A1 n.f1.length c1, .slice A2 n.f2.length c2, .int .i64 n.f3, .int .i64 n.f4, .slice A5 n.f5.length c5, .int .i64 n.f6, .int .i64 n.f7, .int .i64 n.f8, .slice A9 n.f9.length c9] 39)) (by rfl) rfl ?_ ?_
        · (go_simp <;> first | rfl | done)
        have hba : Below w4.heap.size w4 (w4.alloc (.cells #[.bool n.f0, .slice A1 n.f1.length c1, .slice A2 n.f2.length c2, .int .i64 n.f3, .int .i64 n.f4, .slice A5 n.f5.length c5, .int .i64 n.f6, .int .i64 n.f7, .int .i64 n.f8, .slice A9 n.f9.length c9] 39)) := below_alloc (Below.refl _ _) _
        refine hK.out _ _ ⟨(HM3.out.below hba).cells.2.2, blk_below HN3.out hba⟩ (fun hHeld => ?_)
        clear hK K
        refine norm_ (a' := ?_) ?_ ?_
        rotate_left
        · show Act.put _ (some 41) _ = _
          simp only [Act.put, List.setIfInBounds_toArray, List.set_cons_zero, List.set_cons_succ, i64_w, i32_w]
          rfl
        refine one_ (i := 7) (N := some 42) #[true, true, true, true, true, true, true, true, false, false, false] rfl rfl (one_of HT_.out (by kernel_rfl)) (by decide) (fun K hK => ?_)
        refine Kd.R_append_step (Kd.raw 10) (w0 := w4) base (by rfl) (.tmp 39) (.tmp 41) 78 39 (.agg #[.bool false, .slice none 0 0, .slice none 0 0, .int .i64 0, .int .i64 0, .slice none 0 0, .int .i64 0, .int .i64 0, .int .i64 0, .slice none 0 0]) 144 rfl Tryd.underlying78 (by kernel_rfl) rfl (by decide) (by omega) (.slice A m c) rows [.bool n.f0, .slice A1 n.f1.length c1, .slice A2 n.f2.length c2, .int .i64 n.f3, .int .i64 n.f4, .slice A5 n.f5.length c5, .int .i64 n.f6, .int .i64 n.f7, .int .i64 n.f8, .slice A9 n.f9.length c9] [.bool n.f0, .slice A1 n.f1.length c1, .slice A2 n.f2.length c2, .int .i64 n.f3, .int .i64 n.f4, .slice A5 n.f5.length c5, .int .i64 n.f6, .int .i64 n.f7, .int .i64 n.f8, .slice A9 n.f9.length c9] (fun _ => True) (fun _ => False) rfl rfl ?aP (fun _ h => h.elim) ?aF ?aO ?aB ?aS ?aL ?_
        case aP => exact ⟨rfl, rfl, HONE.out⟩
        case aF => exact (fun _ _ => trivial)
        case aO => exact HR3.out
        case aB => exact Below.refl _ _
        case aS => have := HB3.out.size; have := HB2.out.size; have := HBW.out; omega
        case aL => have := HML.out; omega
        intro v1 w6 ho hb2 hg hat
        obtain ⟨B, d, rfl⟩ := Kd.R_slice ho
        obtain ⟨kl, hkl⟩ : ∃ kl, kl = (rows ++ ([[.bool n.f0, .slice A1 n.f1.length c1, .slice A2 n.f2.length c2, .int .i64 n.f3, .int .i64 n.f4, .slice A5 n.f5.length c5, .int .i64 n.f6, .int .i64 n.f7, .int .i64 n.f8, .slice A9 n.f9.length c9]] : List (List Value))).length := ⟨_, rfl⟩
        rw [← hkl] at ho hat
        rw [← hkl]
        have HKL := Aside0.mk hkl
        have HO := Aside0.mk ho
        have HG6 := Aside0.mk hg
        have HAT := Aside0.mk hat
        have HB6 := Aside0.mk hb2
        have HM6 := Aside0.mk (show QBlk w6 q size most (.slice A m c) from (hg.block q HM3.out.lt (Kd.R_ne HR3.out HM3.out (by decide))).trans HM3.out)
        have HN6 := Aside0.mk (show w6.heap[gb]? = some (.cells #[.bool n.f0, .slice A1 n.f1.length c1, .slice A2 n.f2.length c2, .int .i64 n.f3, .int .i64 n.f4, .slice A5 n.f5.length c5, .int .i64 n.f6, .int .i64 n.f7, .int .i64 n.f8, .slice A9 n.f9.length c9] 39 (0, 0)) from (hg.block gb (blk_lt HN3.out) HGB.out).trans HN3.out)
        clear ho hb2 hg hat hkl
        refine hK.out _ _ ⟨HM6.out.cells.2.2, HN6.out⟩ (fun hHeld => ?_)
        clear hK K
        refine norm_ (a' := ?_) ?_ ?_
        rotate_left
        · show Act.put _ (some 42) _ = _
          simp only [Act.put, List.setIfInBounds_toArray, List.set_cons_zero, List.set_cons_succ, i64_w, i32_w]
          rfl
        refine pure_ (i := 8) (N := some 43) (v := ?_) (a' := ?_) #[true, true, true, true, true, true, true, true, true, false, false] rfl rfl (any_of HT_.out (by kernel_rfl)) (fun _ _ _ h => h) (Or.inl ⟨by rfl, ?_⟩) ?_ ?_
        rotate_left
        · intro w'
          go_simp
          with_reducible rfl
        rotate_left
        · simp only [Act.put, List.setIfInBounds_toArray, List.set_cons_zero, List.set_cons_succ, i64_w, i32_w]
          rfl
        refine pure_ (i := 9) (N := some 44) (v := ?_) (a' := ?_) #[true, true, true, true, true, true, true, true, true, true, false] rfl rfl (any_of HT_.out (by kernel_rfl)) (fun _ _ _ h => h) (Or.inl ⟨by rfl, ?_⟩) ?_ ?_
        rotate_left
        · intro w'
          go_simp
          with_reducible rfl
        rotate_left
        · simp only [Act.put, List.setIfInBounds_toArray, List.set_cons_zero, List.set_cons_succ, i64_w, i32_w]
          rfl
        refine last_ (i := 10) (N := none) #[true, true, true, true, true, true, true, true, true, true, true] rfl rfl (one_of HT_.out (by kernel_rfl)) (by decide) (fun K hK => ?_)
        obtain ⟨w7, hw7⟩ : ∃ w7, w7 = w6.setCell ⟨q, 2, none⟩ (.slice B kl d) := ⟨_, rfl⟩
        have HM7 := Aside0.mk (show QBlk w7 q size most (.slice B kl d) from by rw [hw7]; exact HM6.out.set2 _)
        have HR7 := Aside0.mk (show RowsR w7 base (.slice B kl d) (rows ++ ([[.bool n.f0, .slice A1 n.f1.length c1, .slice A2 n.f2.length c2, .int .i64 n.f3, .int .i64 n.f4, .slice A5 n.f5.length c5, .int .i64 n.f6, .int .i64 n.f7, .int .i64 n.f8, .slice A9 n.f9.length c9]] : List (List Value))) from by rw [hw7]; exact Kd.R_set HO.out HM6.out (by decide) 2 _)
        have HW7 := Aside0.mk hw7
        have k3 := HM6.out.cells.2.2
        have kf := blk_frozen HM6.out 2
        refine skip_ (w1 := w7) (by rfl) rfl ?_ ?_
        · (go_simp <;> first | rfl | (rw [hw7]; rfl) | (subst hw7; rfl))
        clear k3 kf hw7 hHeld
        refine hK.out _ _ ?_
        clear hK K
        refine done_ (done_of HT_.out (by kernel_rfl)) ?_
        have hk7 : (kl : Int) - 1 = (m : Int) := by have := HKL.out; rw [List.length_append, List.length_singleton] at this; have := HML.out; omega
        have hw : wrap64 (m : Int) = (m : Int) := by unfold wrap64; have := HML.out; omega
        obtain ⟨k0, k1, k2⟩ := HM7.out.cells
        go_wp2_with fail
        go_ret2
        refine ⟨fun hn => absurd (by rw [HU.out]; exact hn) HNF.out, fun _ => ⟨by rw [HLOW.out, ← HML.out.1]; show Ending.returned (.tuple #[.int .i64 (wrap64 (m : Int)), .int .i64 0]) = _; rw [hw], ?_⟩⟩
        have hK : Kept W2 w7 (OwnQ q vl) := by
          rw [HW7.out]
          refine ⟨by rw [World.size_setCell]; exact Nat.le_trans HB3.out.size HG6.out.size, fun x hx hn => (Below.heap_setCell w6 ⟨q, 2, none⟩ _ x (fun e => hn (.inl e))).trans ((HG6.out.block x (Nat.lt_of_lt_of_le hx HB3.out.size) (fun e => hn (.inr (by rw [HVL.out]; exact e)))).trans (HB3.out.block x hx))⟩
        have hE : Below base W2 w7 := by
          rw [HW7.out]
          exact Below.setCell ((HB3.out.mono (by have := HB2.out.size; have := HBW.out; omega)).trans HB6.out) HM2.out.hb _
        have hX3 : NodeOk W2 X (some n) [.bool n.f0, .slice A1 n.f1.length c1, .slice A2 n.f2.length c2, .int .i64 n.f3, .int .i64 n.f4, .slice A5 n.f5.length c5, .int .i64 n.f6, .int .i64 n.f7, .int .i64 n.f8, .slice A9 n.f9.length c9] := HROW.out.step (fun k hx hl => HB2.out.block k hl) (fun _ h => h)
        refine RefP.start (RefM.putEnd HM2.out HV2.out n _ HLOW.out HROOM.out hX3 HM7.out HR7.out ?_ hK hE) (Grew.refl _ _) HB2.out HBW.out.1
        rw [HVL.out]
        rcases HAT.out with h | ⟨b, h1, h2⟩
        · exact .inl h
        · exact .inr ⟨b, h1, Nat.le_trans HB3.out.size h2⟩
end Go.Proofs.YtdeneoknjeegbaaDoor.P
end
