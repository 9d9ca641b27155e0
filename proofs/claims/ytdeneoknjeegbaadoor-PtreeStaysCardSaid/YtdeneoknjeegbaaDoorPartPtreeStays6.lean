/- Lemmas of this claim, part 6. -/
import Derived.Test.YtdeneoknjeegbaaDoorPartPtreeStays5
import Derived.BigRegion
import Derived.WalkSpells
import Derived.Outline
import Derived.Test.YtdeneoknjeegbaaDoorPartPtreeStays2
import Derived.Shelf.Small.Bits
import Derived.Shelf.Slices.Turned
import Derived.Shelf.Slices.Reverse
import Derived.Shelf.Slices.Cells
import Derived.Shelf.Bytes.SlSearch0
import Derived.Shelf.Bytes.SlEqualAll
import Derived.Shelf.Bytes.Small
import Derived.Test.YtdeneoknjeegbaaDoorProg
import Derived.Shelf.Spec.TrailingZeros
import Derived.Test.YtdeneoknjeegbaaDoorPartPtreeStays4
import Derived.Laws.BitsAllLaws
set_option linter.unusedVariables false
set_option linter.unusedSimpArgs false
section
namespace Go.Proofs.YtdeneoknjeegbaaDoor.P
open Go.RowKit YtdeneoknjeegbaaDoorW.PrintWords YtdeneoknjeegbaaDoorW.PrintLast YtdeneoknjeegbaaDoorW.PrintMore
def QBlk (w : World) (q : Nat) (size most : Int) (vl : Value) : Prop := w.heap[q]? = some (.cells #[.int .i64 size, .int .i64 most, vl] 80 (0, 0))
theorem QBlk.below {w w1 : World} {q : Nat} {size most : Int} {vl : Value} (h : QBlk w q size most vl) (hb : Below w.heap.size w w1) : QBlk w1 q size most vl := blk_below h hb
theorem QBlk.lt {w : World} {q : Nat} {size most : Int} {vl : Value} (h : QBlk w q size most vl) : q < w.heap.size := blk_lt h
theorem QBlk.cells {w : World} {q : Nat} {size most : Int} {vl : Value} (h : QBlk w q size most vl) : w.cell? ⟨q, 0, none⟩ = some (.int .i64 size) /\ w.cell? ⟨q, 1, none⟩ = some (.int .i64 most) /\ w.cell? ⟨q, 2, none⟩ = some vl :=
  ⟨(blk_cell h 0).trans rfl, (blk_cell h 1).trans rfl, (blk_cell h 2).trans rfl⟩
abbrev RowsR (w : World) (base : Nat) (v : Value) (rows : List (List Value)) : Prop := Kd.R (Kd.raw 10) 39 w base (fun _ => True) v rows
theorem raw_row10 {w : World} {base : Nat} {v : Value} {rows : List (List Value)} (h : RowsR w base v rows) (k : Nat) (r : List Value) (hr : rows[k]? = some r) : r.length = 10 /\ ∃ g c, v = .slice (some ⟨g, 0, none⟩) rows.length c /\ ∀ j u, r[j]? = some u -> w.cell? ⟨g, k * 10 + j, none⟩ = some u := by
  obtain ⟨A, c, rfl⟩ := Kd.R_slice h
  have hkl := (List.getElem?_eq_some_iff.1 hr).1
  have hrd := Kd.R_reads' h
  obtain ⟨ad, cc, e, hcl, hcK, hcc⟩ := Kd.C_get hrd.2.2 ([] : List Value) (k : Int) (by omega) (by omega)
  subst e
  obtain ⟨g, rfl⟩ := Kd.R_head h
  have h0 := hcK.1
  rw [Int.toNat_natCast, List.getD_eq_getElem?_getD, hr] at h0
  have h1 : cc = r := h0
  refine ⟨by rw [<- h1]; exact hcl, g, c, rfl, fun j u hj => ?_⟩
  have := hcc j u (by rw [h1]; exact hj)
  rwa [Int.toNat_natCast, add_plain] at this
def node0 : List Value := [.bool false, .slice none 0 0, .slice none 0 0, .int .i64 0, .int .i64 0, .slice none 0 0, .int .i64 0, .int .i64 0, .int .i64 0, .slice none 0 0]
def NodeOk (w : World) (X : Nat -> Prop) : Option Nd -> List Value -> Prop
  | none, r => r = node0
  | some n, r => RowOf w X n r /\ 0 < n.f9.length
theorem NodeOk.step {w w1 : World} {X X1 : Nat -> Prop} {o : Option Nd} {r : List Value} (h : NodeOk w X o r) (hk : ∀ k, X k -> k < w.heap.size -> w1.heap[k]? = w.heap[k]?) (hX : ∀ k, X k -> X1 k) : NodeOk w1 X1 o r := by
  cases o with
  | none => exact h
  | some n => exact ⟨h.1.step hk hX, h.2⟩
def OwnQ (q : Nat) (vl : Value) (k : Nat) : Prop := k = q \/ some k = vl.ownBlock
structure RefV (w : World) (base q : Nat) (size most : Int) (vl : Value) (X : Nat -> Prop) (rows : List (List Value)) (cs : Cs) : Prop where
  blk : QBlk w q size most vl
  cells : RowsR w base vl rows
  len : rows.length = cs.length
  row : ∀ (i : Nat) (o : Option Nd) (r : List Value), cs[i]? = some o -> rows[i]? = some r -> NodeOk w X o r
  sep : ∀ k, X k -> k < w.heap.size /\ ¬ OwnQ q vl k
structure RefM (w : World) (base q : Nat) (size most : Int) (vl : Value) (X : Nat -> Prop) (cs : Cs) : Prop where
  mem : ∃ rows, RefV w base q size most vl X rows cs
  hb : base <= q
  hs : 1 <= size /\ size <= 32
  hr : 1 <= most /\ most <= 4194304
  hl : (cs.length : Int) <= most
theorem RefV.own_lt {w : World} {base q : Nat} {size most : Int} {vl : Value} {X : Nat -> Prop} {rows : List (List Value)} {cs : Cs} (h : RefV w base q size most vl X rows cs) (k : Nat) (hk : OwnQ q vl k) : k < w.heap.size := by
  rcases hk with rfl | hk
  · exact h.blk.lt
  · exact YtdeneoknjeegbaaDoorW.PrintWords.own_lt (Kd.R_own h.cells).choose_spec k hk.symm
theorem RefV.step {w w1 : World} {base q : Nat} {size most : Int} {vl : Value} {X X1 : Nat -> Prop} {rows : List (List Value)} {cs : Cs} (hv : RefV w base q size most vl X rows cs) (hs : w.heap.size <= w1.heap.size) (hk : ∀ k, k < w.heap.size -> OwnQ q vl k \/ X k -> w1.heap[k]? = w.heap[k]?) (hX : ∀ k, X k -> X1 k) (hX1 : ∀ k, X1 k -> k < w1.heap.size /\ ¬ OwnQ q vl k) : RefV w1 base q size most vl X1 rows cs := by
  refine ⟨(hk q hv.blk.lt (.inl (.inl rfl))).trans hv.blk, ?_, hv.len, fun i o r hi hr => (hv.row i o r hi hr).step (fun k hx hl => hk k hl (.inr hx)) hX, hX1⟩
  exact Kd.R_mono (Kd.R_step (Kd.R_reok (ok := fun k => some k = vl.ownBlock) rfl hv.cells (fun k e => e.symm)) (fun k hx hl => hk k hl (.inl (.inr hx)))) (fun _ _ => trivial)
theorem RefV.below {w w1 : World} {base q : Nat} {size most : Int} {vl : Value} {X : Nat -> Prop} {rows : List (List Value)} {cs : Cs} (hv : RefV w base q size most vl X rows cs) (hb : Below w.heap.size w w1) : RefV w1 base q size most vl X rows cs :=
  hv.step hb.size (fun k hk _ => hb.block k hk) (fun _ h => h) (fun k hx => ⟨Nat.lt_of_lt_of_le (hv.sep k hx).1 hb.size, (hv.sep k hx).2⟩)
theorem RefM.step {w w1 : World} {base q : Nat} {size most : Int} {vl : Value} {X X1 : Nat -> Prop} {cs : Cs} (h : RefM w base q size most vl X cs) (hs : w.heap.size <= w1.heap.size) (hk : ∀ k, k < w.heap.size -> OwnQ q vl k \/ X k -> w1.heap[k]? = w.heap[k]?) (hX : ∀ k, X k -> X1 k) (hX1 : ∀ k, X1 k -> k < w1.heap.size /\ ¬ OwnQ q vl k) : RefM w1 base q size most vl X1 cs := by
  obtain ⟨rows, hv⟩ := h.mem
  exact ⟨⟨rows, hv.step hs hk hX hX1⟩, h.hb, h.hs, h.hr, h.hl⟩
theorem RefM.below {w w1 : World} {base q : Nat} {size most : Int} {vl : Value} {X : Nat -> Prop} {cs : Cs} (h : RefM w base q size most vl X cs) (hb : Below w.heap.size w w1) : RefM w1 base q size most vl X cs := by
  obtain ⟨rows, hv⟩ := h.mem
  exact h.step hb.size (fun k hk _ => hb.block k hk) (fun _ h => h) (fun k hx => ⟨Nat.lt_of_lt_of_le (hv.sep k hx).1 hb.size, (hv.sep k hx).2⟩)
theorem RefM.base_le {w : World} {base q : Nat} {size most : Int} {vl : Value} {X : Nat -> Prop} {cs : Cs} (h : RefM w base q size most vl X cs) : base <= w.heap.size /\ q < w.heap.size := by
  obtain ⟨rows, hv⟩ := h.mem
  have := hv.blk.lt
  have := h.hb
  omega
def RefP (w w' : World) (base q : Nat) (size most : Int) (vl : Value) (X : Nat -> Prop) (cs : Cs) : Prop :=
  ∃ vl' X', RefM w' base q size most vl' X' cs /\ Grew w (OwnQ q vl) (OwnQ q vl') /\ Grew w X X' /\ Kept w w' (OwnQ q vl) /\ Below base w w'
theorem RefP.of_below {w w' : World} {base q : Nat} {size most : Int} {vl : Value} {X : Nat -> Prop} {cs : Cs} (h : RefM w base q size most vl X cs) (hb : Below w.heap.size w w') : RefP w w' base q size most vl X cs :=
  ⟨vl, X, h.below hb, Grew.refl _ _, Grew.refl _ _, Kept.of_below hb _, hb.mono h.base_le.1⟩
theorem usedN_take : ∀ (cs : Cs) (j : Nat) (o : Option Nd), cs[j]? = some o -> usedN (cs.take (j + 1)) = usedN (cs.take j) + (if o.isSome then 1 else 0)
  | [], j, o, h => by simp at h
  | x :: r, 0, o, h => by
    obtain rfl : x = o := by simpa using h
    cases x <;> rfl
  | none :: r, j + 1, o, h => by
    simp only [List.take_succ_cons, usedN]
    exact usedN_take r j o (by simpa using h)
  | some _ :: r, j + 1, o, h => by
    simp only [List.take_succ_cons, usedN]
    rw [usedN_take r j o (by simpa using h)]
    omega
theorem nodeAt_get {cs : Cs} {j : Nat} {o : Option Nd} (h : cs[j]? = some o) : nodeAt cs (j : Int) = o := by
  unfold nodeAt
  rw [if_pos (by omega), Int.toNat_natCast, h]
  rfl
structure RPutPost (w w' : World) (base q : Nat) (size most : Int) (vl : Value) (X : Nat -> Prop) (cs : Cs) (n : Nd) (e : Ending) : Prop where
  full : (usedN cs : Int) = most -> e = .returned (.tuple #[.int .i64 0, .int .i64 4]) /\ RefP w w' base q size most vl X cs
  more : (usedN cs : Int) ≠ most -> e = .returned (.tuple #[.int .i64 (lowN cs : Int), .int .i64 0]) /\ RefP w w' base q size most vl X (putC cs n)
end Go.Proofs.YtdeneoknjeegbaaDoor.P
end
section
namespace Go.Proofs.YtdeneoknjeegbaaDoor.P
open Go.RowKit YtdeneoknjeegbaaDoor.Pure YtdeneoknjeegbaaDoorW.PrintWords YtdeneoknjeegbaaDoorW.PrintLast YtdeneoknjeegbaaDoorW.PrintMore
structure RPost (c : Prop) (w w' : World) (base q : Nat) (size most : Int) (vl : Value) (X : Nat -> Prop) (cs : Cs) (n : Nd) (e : Ending) : Prop where
  bad : c -> e = .returned (.tuple #[.int .i64 0, .int .i64 1]) /\ RefP w w' base q size most vl X cs
  full : ¬ c -> (usedN cs : Int) = most -> e = .returned (.tuple #[.int .i64 0, .int .i64 4]) /\ RefP w w' base q size most vl X cs
  ok : ¬ c -> (usedN cs : Int) ≠ most -> e = .returned (.tuple #[.int .i64 (lowN cs : Int), .int .i64 0]) /\ RefP w w' base q size most vl X (putC cs n)

theorem nodeAt_some {cs : Cs} {i : Int} {n : Nd} (h : nodeAt cs i = some n) : ∃ k : Nat, i = (k : Int) /\ cs[k]? = some (some n) := by
  have h1 := nodeAt_lt (cs := cs) (i := i) (by rw [h]; rfl)
  refine ⟨i.toNat, by omega, ?_⟩
  unfold nodeAt at h
  rw [if_pos h1.1, List.getElem?_eq_getElem h1.2] at h
  rw [List.getElem?_eq_getElem h1.2]
  exact congrArg some h
end Go.Proofs.YtdeneoknjeegbaaDoor.P
end
section
namespace Go.Proofs.YtdeneoknjeegbaaDoor.P
open Go.RowKit YtdeneoknjeegbaaDoor.Pure YtdeneoknjeegbaaDoorW.PrintWords YtdeneoknjeegbaaDoorW.PrintLast YtdeneoknjeegbaaDoorW.PrintMore
attribute [local go_sem] max2_int min2_int max_two min_two

end Go.Proofs.YtdeneoknjeegbaaDoor.P
end
section
namespace Go.Proofs.YtdeneoknjeegbaaDoor.P
open Go.RowKit YtdeneoknjeegbaaDoorW.PrintWords YtdeneoknjeegbaaDoorW.PrintLast YtdeneoknjeegbaaDoorW.PrintMore
structure RwI (w wr : World) (base q gm n : Nat) (size most : Int) (vl : Value) (X : Nat -> Prop) (ms : List Bool) (cs' : Cs) : Prop where
  m : RefM wr base q size most vl X cs'
  k : Kept w wr (OwnQ q vl)
  b : Below base w wr
  ms : MarksR wr w.heap.size (.slice (some ⟨gm, 0, none⟩) n n) ms
end Go.Proofs.YtdeneoknjeegbaaDoor.P
end
section
namespace Go.Proofs.YtdeneoknjeegbaaDoor.P
open Go.RowKit YtdeneoknjeegbaaDoor.Pure YtdeneoknjeegbaaDoorW.PrintWords YtdeneoknjeegbaaDoorW.PrintLast YtdeneoknjeegbaaDoorW.PrintMore
theorem cut_twice : ∀ s : Fin 8, ∀ x : Fin 256, Go.bits .and .u8 (Go.bits .and .u8 (x.val : Int) (255 * 2 ^ s.val % 256)) (255 * 2 ^ s.val % 256) = Go.bits .and .u8 (x.val : Int) (255 * 2 ^ s.val % 256) := by decide +kernel
theorem cutByte_idem (x : Int) (o : Nat) (ho : 0 < o /\ o < 8) (hx : 0 <= x /\ x <= 255) : cutByte (cutByte x (o : Int)) (o : Int) = cutByte x (o : Int) := by
  unfold cutByte
  have := cut_twice ⟨8 - o, by omega⟩ ⟨x.toNat, by omega⟩
  simp only [Int.toNat_of_nonneg hx.1] at this
  rw [show (8 - (o : Int)).toNat = 8 - o by omega]
  exact this
theorem firstB_idem (l : List Int) (hb : BytesOk l) (a : Int) : firstB (firstB l a) a = firstB l a := by
  by_cases h8 : 8 * (l.length : Int) <= a
  · have : firstB l a = l := by unfold firstB; rw [if_pos h8]
    rw [this, this]
  by_cases h1 : a < 1
  · have : firstB l a = [] := by unfold firstB; rw [if_neg h8, if_pos h1]
    rw [this]
    unfold firstB
    (repeat' split) <;> first | rfl | omega
  have e1 : firstB l a = firstBits l a.toNat := by unfold firstB; rw [if_neg h8, if_neg h1]
  obtain ⟨n, hn⟩ : ∃ n, n = a.toNat := ⟨_, rfl⟩
  obtain ⟨m, hm⟩ : ∃ m, m = bitBytes n := ⟨_, rfl⟩
  have hm' : m = (n - 1) / 8 + 1 := hm
  have hml : m <= l.length := by omega
  rw [e1]
  by_cases h0 : n % 8 = 0
  · have e2 : firstBits l a.toNat = l.take m := by unfold firstBits; rw [<- hn, if_pos h0, <- hm]
    rw [e2]
    unfold firstB
    rw [if_pos (by rw [List.length_take]; omega)]
  · obtain ⟨t, ht⟩ : ∃ t, t = l.take m := ⟨_, rfl⟩
    have htl : t.length = m := by rw [ht, List.length_take]; omega
    have e2 : firstBits l a.toNat = t.set (m - 1) (cutByte (t.getD (m - 1) 0) ((n % 8 : Nat) : Int)) := by unfold firstBits; rw [<- hn, if_neg h0, <- hm, <- ht]
    have hx : 0 <= t.getD (m - 1) 0 /\ t.getD (m - 1) 0 <= 255 := BytesOk.get (show BytesOk t from fun x hx => hb x (by rw [ht] at hx; exact List.mem_of_mem_take hx)) _
    obtain ⟨y, hy⟩ : ∃ y, y = cutByte (t.getD (m - 1) 0) ((n % 8 : Nat) : Int) := ⟨_, rfl⟩
    have hyy : cutByte y ((n % 8 : Nat) : Int) = y := by rw [hy]; exact cutByte_idem _ _ (by omega) hx
    rw [e2, <- hy]
    unfold firstB
    rw [if_neg (by rw [List.length_set, htl]; omega), if_neg h1]
    unfold firstBits
    rw [<- hn, if_neg h0, <- hm, List.take_of_length_le (by rw [List.length_set, htl]; omega), List.getD_eq_getElem?_getD, List.getElem?_set_self (by omega)]
    simp only [Option.getD_some]
    rw [hyy, List.set_set]
theorem wordByte_ok (ws : List Int) (i : Nat) : 0 <= wordByte ws i /\ wordByte ws i <= 255 := by
  unfold wordByte
  omega
theorem outB_ok (ws : List Int) : ∀ k, BytesOk (outB ws k)
  | 0 => fun x hx => by
    have := List.eq_of_mem_replicate hx
    omega
  | k + 1 => fun x hx => by
    rcases List.mem_or_eq_of_mem_set hx with h | rfl
    · exact outB_ok ws k x h
    · exact wordByte_ok ws k
theorem hashB_ok (size tag : Int) (parts : List (List Int)) : BytesOk (hashB size tag parts) := by
  unfold hashB
  split
  · intro x hx; cases hx
  · intro x hx
    exact outB_ok _ 32 x (List.mem_of_mem_take hx)
theorem hashB_le (size tag : Int) (parts : List (List Int)) : (hashB size tag parts).length <= 32 := by
  unfold hashB
  split
  · simp
  · rw [List.length_take, shaSum_length]
    omega
def CsOk (cs : Cs) : Prop := ∀ n, some n ∈ cs -> NdLen n /\ BytesOk n.f9
theorem nodeAt_mem {cs : Cs} {i : Int} {n : Nd} (h : nodeAt cs i = some n) : some n ∈ cs := by
  obtain ⟨k, rfl, hk⟩ := nodeAt_some h
  exact List.mem_of_getElem? hk
theorem CsOk.nil : CsOk [] := fun n h => by cases h
theorem CsOk.at {cs : Cs} (h : CsOk cs) (i : Int) (n : Nd) (hn : nodeAt cs i = some n) : NdLen n /\ BytesOk n.f9 := h n (nodeAt_mem hn)
theorem CsOk.put {cs : Cs} (h : CsOk cs) {n : Nd} (hn : NdLen n /\ BytesOk n.f9) : CsOk (putC cs n) := by
  unfold putC
  split
  · intro m hm
    rcases List.mem_or_eq_of_mem_set hm with h1 | h1
    · exact h m h1
    · obtain rfl := Option.some.inj h1
      exact hn
  · intro m hm
    rcases List.mem_append.1 hm with h1 | h1
    · exact h m h1
    · obtain rfl : m = n := by simpa using h1
      exact hn
theorem leafNd_ok (size : Int) (l1 l2 : List Int) (since : Int) (h1 : l1.length <= 65535) (h2 : l2.length <= 65535) : NdLen (leafNd size l1 l2 since) /\ BytesOk (leafNd size l1 l2 since).f9 :=
  ⟨⟨h1, h2, Nat.zero_le _, Nat.le_trans (hashB_le _ _ _) (by decide)⟩, hashB_ok _ _ _⟩
theorem forkNd_ok (size depth : Int) (pr : List Int) (left right : Int) (nl nr : Nd) (h1 : pr.length <= 65535) : NdLen (forkNd size depth pr left right nl nr) /\ BytesOk (forkNd size depth pr left right nl nr).f9 :=
  ⟨⟨Nat.zero_le _, Nat.zero_le _, Nat.le_trans (firstB_length _ _) h1, Nat.le_trans (hashB_le _ _ _) (by decide)⟩, hashB_ok _ _ _⟩
theorem forkOf_ok {cs : Cs} (size depth : Int) (pr : List Int) (left right : Int) (h : ¬ forkBad cs depth pr left right) : NdLen (forkOf size cs depth pr left right) /\ BytesOk (forkOf size cs depth pr left right).f9 := by
  unfold forkOf
  have h1 : pr.length <= 65535 := by
    rcases Nat.lt_or_ge 65535 pr.length with hl | hl
    · exact absurd (.inr (.inr (.inl hl))) h
    · exact hl
  cases hl : nodeAt cs left with
  | none => exact absurd (.inr (.inr (.inr (.inl hl)))) h
  | some nl =>
    cases hr : nodeAt cs right with
    | none => exact absurd (.inr (.inr (.inr (.inr hr)))) h
    | some nr => exact forkNd_ok _ _ _ _ _ _ _ h1
structure Pr (w : World) (base p q : Nat) (size room : Int) (vc vf vl : Value) (X : Nat -> Prop) (cs cs2 : Cs) : Prop where
  a : ArenaM w base p size room vc vf X cs
  r : RefM w base q size room vl X cs2
  apart : ∀ k, OwnS p vc vf k -> ¬ OwnQ q vl k
theorem ArenaM.sep {w : World} {base p : Nat} {size room : Int} {vc vf : Value} {X : Nat -> Prop} {cs : Cs} (h : ArenaM w base p size room vc vf X cs) (k : Nat) (hk : X k) : k < w.heap.size /\ ¬ OwnS p vc vf k := by
  obtain ⟨rows, fr, hv⟩ := h.mem
  exact hv.sep k hk
theorem ArenaM.own {w : World} {base p : Nat} {size room : Int} {vc vf : Value} {X : Nat -> Prop} {cs : Cs} (h : ArenaM w base p size room vc vf X cs) (k : Nat) (hk : OwnS p vc vf k) : k < w.heap.size := by
  obtain ⟨rows, fr, hv⟩ := h.mem
  exact hv.own_lt k hk
theorem RefM.sep {w : World} {base q : Nat} {size most : Int} {vl : Value} {X : Nat -> Prop} {cs : Cs} (h : RefM w base q size most vl X cs) (k : Nat) (hk : X k) : k < w.heap.size /\ ¬ OwnQ q vl k := by
  obtain ⟨rows, hv⟩ := h.mem
  exact hv.sep k hk
theorem RefM.own {w : World} {base q : Nat} {size most : Int} {vl : Value} {X : Nat -> Prop} {cs : Cs} (h : RefM w base q size most vl X cs) (k : Nat) (hk : OwnQ q vl k) : k < w.heap.size := by
  obtain ⟨rows, hv⟩ := h.mem
  exact hv.own_lt k hk
theorem Pr.below {w w1 : World} {base p q : Nat} {size room : Int} {vc vf vl : Value} {X : Nat -> Prop} {cs cs2 : Cs} (h : Pr w base p q size room vc vf vl X cs cs2) (hb : Below w.heap.size w w1) : Pr w1 base p q size room vc vf vl X cs cs2 :=
  ⟨h.a.below hb, h.r.below hb, h.apart⟩
structure Step (w w' : World) (base p q : Nat) (size room : Int) (vc vf vl : Value) (X X' : Nat -> Prop) (cs cs2 : Cs) : Prop where
  pr : Pr w' base p q size room vc vf vl X' cs cs2
  sub : ∀ k, X k -> X' k
  low : Below base w w'
  same : ∀ k, X k -> w'.heap[k]? = w.heap[k]?
end Go.Proofs.YtdeneoknjeegbaaDoor.P
end
section
namespace Go.Proofs.YtdeneoknjeegbaaDoor.P
open Go.RowKit YtdeneoknjeegbaaDoorW.PrintWords YtdeneoknjeegbaaDoorW.PrintLast YtdeneoknjeegbaaDoorW.PrintMore
def newBad (size room : Int) : Prop := size < 1 \/ 32 < size \/ room < 1 \/ 4194304 < room
end Go.Proofs.YtdeneoknjeegbaaDoor.P
end
section
namespace Go.Proofs.YtdeneoknjeegbaaDoor.P
open Go.RowKit YtdeneoknjeegbaaDoor.Pure YtdeneoknjeegbaaDoorW.PrintWords YtdeneoknjeegbaaDoorW.PrintLast YtdeneoknjeegbaaDoorW.PrintMore
def PutOut (c : Prop) (cs : Cs) (room : Int) (n : Nd) (i er : Int) (cs' : Cs) : Prop := (c /\ i = 0 /\ er = 1 /\ cs' = cs) \/ (¬ c /\ (usedN cs : Int) = room /\ i = 0 /\ er = 4 /\ cs' = cs) \/ (¬ c /\ (usedN cs : Int) ≠ room /\ i = (lowN cs : Int) /\ er = 0 /\ cs' = putC cs n)
theorem PutOut.same {c : Prop} {cs : Cs} {room : Int} {n : Nd} {i er j f : Int} {cs1 cs2 : Cs} (h : PutOut c cs room n i er cs1) (k : PutOut c cs room n j f cs2) : j = i /\ f = er /\ cs2 = cs1 := by
  rcases h with ⟨h1, rfl, rfl, rfl⟩ | ⟨h1, h2, rfl, rfl, rfl⟩ | ⟨h1, h2, rfl, rfl, rfl⟩ <;> rcases k with ⟨k1, rfl, rfl, rfl⟩ | ⟨k1, k2, rfl, rfl, rfl⟩ | ⟨k1, k2, rfl, rfl, rfl⟩ <;> first | exact ⟨rfl, rfl, rfl⟩ | exact absurd h1 k1 | exact absurd k1 h1 | exact absurd h2 k2 | exact absurd k2 h2
theorem PutOut.ok {c : Prop} {cs : Cs} {room : Int} {n : Nd} {i er : Int} {cs1 : Cs} (h : PutOut c cs room n i er cs1) (hcs : CsOk cs) (hn : ¬ c -> NdLen n /\ BytesOk n.f9) : CsOk cs1 := by
  rcases h with ⟨h1, rfl, rfl, rfl⟩ | ⟨h1, h2, rfl, rfl, rfl⟩ | ⟨h1, h2, rfl, rfl, rfl⟩
  · exact hcs
  · exact hcs
  · exact hcs.put (hn h1)
theorem PutPost.out {c : Prop} {w w' : World} {base p : Nat} {size room : Int} {vc vf : Value} {X : Nat -> Prop} {cs : Cs} {n : Nd} {e : Ending} (h : PutPost c w w' base p size room vc vf X cs n e) : ∃ i er cs', PutOut c cs room n i er cs' /\ e = .returned (.tuple #[.int .i64 i, .int .i64 er]) /\ ArenaP w w' base p size room vc vf X cs' := by
  by_cases hc : c
  · exact ⟨0, 1, cs, .inl ⟨hc, rfl, rfl, rfl⟩, h.bad hc⟩
  · by_cases hf : (usedN cs : Int) = room
    · exact ⟨0, 4, cs, .inr (.inl ⟨hc, hf, rfl, rfl, rfl⟩), h.full hc hf⟩
    · exact ⟨_, 0, _, .inr (.inr ⟨hc, hf, rfl, rfl, rfl⟩), h.ok hc hf⟩
theorem RPost.out {c : Prop} {w w' : World} {base q : Nat} {size room : Int} {vl : Value} {X : Nat -> Prop} {cs : Cs} {n : Nd} {e : Ending} (h : RPost c w w' base q size room vl X cs n e) : ∃ i er cs', PutOut c cs room n i er cs' /\ e = .returned (.tuple #[.int .i64 i, .int .i64 er]) /\ RefP w w' base q size room vl X cs' := by
  by_cases hc : c
  · exact ⟨0, 1, cs, .inl ⟨hc, rfl, rfl, rfl⟩, h.bad hc⟩
  · by_cases hf : (usedN cs : Int) = room
    · exact ⟨0, 4, cs, .inr (.inl ⟨hc, hf, rfl, rfl, rfl⟩), h.full hc hf⟩
    · exact ⟨_, 0, _, .inr (.inr ⟨hc, hf, rfl, rfl, rfl⟩), h.ok hc hf⟩
theorem Step.ints {w w' : World} {base p q : Nat} {size room : Int} {vc vf vl : Value} {X X' : Nat -> Prop} {cs cs2 : Cs} (h : Step w w' base p q size room vc vf vl X X' cs cs2) {v : Value} {l : List Int} (hb : Kd.V (Kd.int .i64) 3 w 0 X v l) : Kd.V (Kd.int .i64) 3 w' 0 X' v l :=
  Kd.V_mono (Kd.V_step hb (fun k hk _ => h.same k hk)) h.sub
theorem Step.trans {w w1 w2 : World} {base p q : Nat} {size room : Int} {vc vf vl vc' vf' vl' : Value} {X X1 X2 : Nat -> Prop} {cs cs2 cs3 cs4 : Cs} (h : Step w w1 base p q size room vc vf vl X X1 cs cs2) (k : Step w1 w2 base p q size room vc' vf' vl' X1 X2 cs3 cs4) : Step w w2 base p q size room vc' vf' vl' X X2 cs3 cs4 :=
  ⟨k.pr, fun i hi => k.sub i (h.sub i hi), h.low.trans k.low, fun i hi => (k.same i (h.sub i hi)).trans (h.same i hi)⟩
theorem GlobS.step {w w' : World} {base p q : Nat} {size room : Int} {vc vf vl : Value} {X X' : Nat -> Prop} {cs cs2 : Cs} (h : Step w w' base p q size room vc vf vl X X' cs cs2) {w0 : World} (hb : base = w0.heap.size) (hg : GlobS w0) (h0 : Below base w0 w) : GlobS w' := by
  subst hb
  exact GlobS.of hg (h0.trans h.low)
theorem Step.below {w w1 w2 : World} {base p q : Nat} {size room : Int} {vc vf vl : Value} {X X' : Nat -> Prop} {cs cs2 : Cs} (h : Step w w1 base p q size room vc vf vl X X' cs cs2) (hb : Below w1.heap.size w1 w2) : Step w w2 base p q size room vc vf vl X X' cs cs2 :=
  ⟨h.pr.below hb, h.sub, h.low.trans (hb.mono h.pr.a.base_le.1), fun k hk => (hb.block k (h.pr.a.sep k (h.sub k hk)).1).trans (h.same k hk)⟩
theorem Step.roots {w w' : World} {base p q : Nat} {size room : Int} {vc vf vl : Value} {X X' : Nat -> Prop} {cs cs2 : Cs} (h : Step w w' base p q size room vc vf vl X X' cs cs2) {v : Value} {l : List Int} (hb : Kd.V (Kd.int .i64) 3 w 0 X v l) : Kd.V (Kd.int .i64) 3 w' 0 (fun k => k < w'.heap.size) v l :=
  Kd.V_mono (h.ints hb) (fun k hk => (h.pr.a.sep k hk).1)
end Go.Proofs.YtdeneoknjeegbaaDoor.P
end
section
namespace Go.Proofs.YtdeneoknjeegbaaDoor.P
open Go.RowKit YtdeneoknjeegbaaDoorW.PrintWords YtdeneoknjeegbaaDoorW.PrintLast YtdeneoknjeegbaaDoorW.PrintMore

end Go.Proofs.YtdeneoknjeegbaaDoor.P
end
section
namespace Go.Proofs.YtdeneoknjeegbaaDoor.P
open Go.RowKit YtdeneoknjeegbaaDoorW.PrintWords YtdeneoknjeegbaaDoorW.PrintLast YtdeneoknjeegbaaDoorW.PrintMore
attribute [local go_sem] max2_int min2_int max_two min_two max_three min_three max_four min_four
def bytes_Equal.f (l0 : List Int) (l1 : List Int) : Option (Bool) := some ((strOfNums l0).toList == (strOfNums l1).toList)
set_option maxHeartbeats 8000000 in
set_option maxRecDepth 100000 in
theorem bytes_Equal.calls (A0 : Option Addr) (c0 : Nat) (l0 : List Int) (A1 : Option Addr) (c1 : Nat) (l1 : List Int) (r : Bool) (w : World) (hr0 : Kd.C (Kd.int .u8) w A0 l0.length l0) (hc0 : l0.length <= c0) (hr1 : Kd.C (Kd.int .u8) w A1 l1.length l1) (hc1 : l1.length <= c1) (h : bytes_Equal.f l0 l1 = some r) :
    Calls Tryd.prog 29 #[.slice A0 l0.length c0, .slice A1 l1.length c1] w fun e w' => e = .returned (.bool r) /\ Drawn0 w w' := by
  have HR0 := z_ hr0
  have HC0 := z_ hc0
  clear hr0 hc0
  have HR1 := z_ hr1
  have HC1 := z_ hc1
  clear hr1 hc1
  have H : (some ((strOfNums l0).toList == (strOfNums l1).toList)) = some r := h
  clear h
  obtain rfl := Option.some.inj H
  have hcv3 := Kd.C_string (P := Tryd.prog) (A := A0) (c := c0) Tryd.underlying31 Tryd.underlying5 Tryd.underlying9 HR0.out
  have hcv4 := Kd.C_string (P := Tryd.prog) (A := A1) (c := c1) Tryd.underlying31 Tryd.underlying5 Tryd.underlying9 HR1.out
  go_enter Tryd.func29, Tryd.ntmps29
  go_wp2
  go_ret
  exact ⟨by first | rfl | (simp; done) | (simp [*]; done), by repeat (first | exact Drawn0.refl _ | apply Drawn0.step)⟩
end Go.Proofs.YtdeneoknjeegbaaDoor.P
end
section
namespace Go.Proofs.YtdeneoknjeegbaaDoor.P
open Go.RowKit YtdeneoknjeegbaaDoor.Pure YtdeneoknjeegbaaDoorW.PrintWords YtdeneoknjeegbaaDoorW.PrintLast YtdeneoknjeegbaaDoorW.PrintMore
theorem NodeV.all {w' : World} {Y : Nat -> Prop} {o : Option Nd} {e : Ending} (h : NodeV w' Y o e) : ∃ n b, n = o.getD z39 /\ b = o.isSome /\ ∃ (A1 A2 A5 A9 : Option Addr) (c1 c2 c5 c9 : Nat), e = .returned (.tuple #[.agg #[.bool n.f0, .slice A1 n.f1.length c1, .slice A2 n.f2.length c2, .int .i64 n.f3, .int .i64 n.f4, .slice A5 n.f5.length c5, .int .i64 n.f6, .int .i64 n.f7, .int .i64 n.f8, .slice A9 n.f9.length c9], .bool b]) /\ BX w' Y (.slice A1 n.f1.length c1) n.f1 /\ BX w' Y (.slice A2 n.f2.length c2) n.f2 /\ BX w' Y (.slice A5 n.f5.length c5) n.f5 /\ BX w' Y (.slice A9 n.f9.length c9) n.f9 := by
  cases o with
  | none => exact ⟨_, _, rfl, rfl, none, none, none, none, 0, 0, 0, 0, h, Kd.V_nil _ _ _ _ _, Kd.V_nil _ _ _ _ _, Kd.V_nil _ _ _ _ _, Kd.V_nil _ _ _ _ _⟩
  | some n => exact ⟨n, true, rfl, rfl, h⟩
theorem equal_same (l : List Int) : bytes_Equal.f l l = some true := by
  unfold bytes_Equal.f
  rw [beq_self_eq_true]
structure DoS where
  a : Int
  b : Int
  c : Int
  d : Int
  x : List Int
  y : List Int
  r : List Int
theorem V_of_C {k : IntKind} (e : Nat) {w : World} {A : Option Addr} {c : Nat} {l : List Int} (h : Kd.C (Kd.int k) w A l.length l) (hc : l.length <= c) : Kd.V (Kd.int k) e w 0 (fun b => b < w.heap.size) (.slice A l.length c) l := Kd.V_mk hc (fun W' hW => by
  have hsz : w.heap.size <= W'.heap.size := by
    rcases Nat.eq_zero_or_pos w.heap.size with h0 | h0
    · omega
    · have := heap_lt (hW (w.heap.size - 1) (by omega) (by omega)) (by omega)
      omega
  have hb : Below w.heap.size w { W' with os := w.os, tape := w.tape, output := w.output } := ⟨rfl, rfl, rfl, hsz, fun k hk => hW k hk hk⟩
  have hx := Kd.C_below h hb
  exact hx)
end Go.Proofs.YtdeneoknjeegbaaDoor.P
end
section
namespace Go.Proofs.YtdeneoknjeegbaaDoor.P
open Go.RowKit YtdeneoknjeegbaaDoor.Pure
structure Bfs (cs : Cs) (root : Int) (kept todo : List Int) : Prop where
  dup : kept.Nodup
  sound : ∀ c, c ∈ kept -> Reach cs [root] c
  kids : ∀ (c d : Int) (n : Nd), c ∈ kept -> nodeAt cs c = some n -> n.f0 = false -> (d = n.f7 \/ d = n.f8) -> (nodeAt cs d).isSome = true -> d ∈ kept \/ d ∈ todo
  first : (nodeAt cs root).isSome = true -> root ∈ kept \/ root ∈ todo
  todo : ∀ t, t ∈ todo -> (nodeAt cs t).isSome = true -> Reach cs [root] t
theorem Reach.some {cs : Cs} {roots : List Int} {c : Int} (h : Reach cs roots c) : (nodeAt cs c).isSome = true := by
  cases h with
  | root _ h => exact h
  | kid _ _ _ _ h => exact h
theorem Bfs.take {cs : Cs} {root t : Int} {kept rest more : List Int} {n : Nd} (h : Bfs cs root kept (t :: rest)) (hn : nodeAt cs t = some n) (hk : t ∉ kept) (hm : more = if n.f0 then [] else [n.f7, n.f8]) : Bfs cs root (kept ++ [t]) (rest ++ more) := by
  have hs : (nodeAt cs t).isSome = true := by rw [hn]; rfl
  have hr := h.todo t (by simp) hs
  have hx : ∀ d, d ∈ kept \/ d ∈ t :: rest -> d ∈ kept ++ [t] \/ d ∈ rest ++ more := fun d hd => by
    rcases hd with hd | hd
    · exact .inl (List.mem_append_left _ hd)
    · rcases List.mem_cons.1 hd with rfl | hd
      · exact .inl (List.mem_append_right _ (by simp))
      · exact .inr (List.mem_append_left _ hd)
  refine ⟨?_, fun c hc => ?_, fun c d m hc hcn hf hd hds => ?_, fun hs => hx root (h.first hs), fun u hu hus => ?_⟩
  · rw [List.nodup_append]
    refine ⟨h.dup, by simp, fun a ha b hb => ?_⟩
    obtain rfl : b = t := by simpa using hb
    rintro rfl
    exact hk ha
  · rcases List.mem_append.1 hc with hc | hc
    · exact h.sound c hc
    · obtain rfl : c = t := by simpa using hc
      exact hr
  · rcases List.mem_append.1 hc with hc | hc
    · exact hx d (h.kids c d m hc hcn hf hd hds)
    · obtain rfl : c = t := by simpa using hc
      rw [hn] at hcn
      obtain rfl := Option.some.inj hcn
      rw [hf] at hm
      right
      rw [hm]
      refine List.mem_append_right _ ?_
      rcases hd with rfl | rfl <;> simp
  · rcases List.mem_append.1 hu with hu | hu
    · exact h.todo u (List.mem_cons_of_mem _ hu) hus
    · cases hf : n.f0 with
      | true => rw [hm, hf] at hu; simp at hu
      | false =>
        rw [hm, hf] at hu
        exact .kid hr hn hf (by simpa using hu) hus
theorem Bfs.done {cs : Cs} {root : Int} {kept : List Int} (h : Bfs cs root kept []) (c : Int) : c ∈ kept ↔ Reach cs [root] c := by
  refine ⟨h.sound c, fun hr => ?_⟩
  induction hr with
  | root h1 h2 =>
    rename_i i
    obtain rfl : i = root := by simpa using h1
    exact (h.first h2).elim id (fun hx => by cases hx)
  | kid h1 h2 h3 h4 h5 ih => exact (h.kids _ _ _ ih h2 h3 h4 h5).elim id (fun hx => by cases hx)
def taken (cs : Cs) : List Int := ((List.range cs.length).filter (fun i : Nat => (nodeAt cs (i : Int)).isSome)).map (fun i : Nat => (i : Int))
theorem mem_taken (cs : Cs) (c : Int) : c ∈ taken cs ↔ (nodeAt cs c).isSome = true := by
  unfold taken
  rw [List.mem_map]
  constructor
  · rintro ⟨i, hi, rfl⟩
    exact (List.mem_filter.1 hi).2
  · intro h
    have := nodeAt_lt h
    refine ⟨c.toNat, List.mem_filter.2 ⟨List.mem_range.2 this.2, ?_⟩, by omega⟩
    rw [Int.toNat_of_nonneg this.1]
    exact h
theorem taken_nodup (cs : Cs) : (taken cs).Nodup := by
  unfold taken
  unfold List.Nodup
  rw [List.pairwise_map]
  exact (List.Pairwise.filter _ List.nodup_range).imp (fun hne he => hne (by omega))
theorem taken_length : ∀ (cs : Cs) (j : Nat), j <= cs.length -> ((List.range j).filter (fun i : Nat => (nodeAt cs (i : Int)).isSome)).length = usedN (cs.take j)
  | cs, 0, _ => by simp [usedN]
  | cs, j + 1, h => by
    have hj : cs[j]? = some cs[j] := List.getElem?_eq_getElem (by omega)
    rw [List.range_succ, List.filter_append, List.length_append, taken_length cs j (by omega), usedN_take cs j _ hj]
    have hn := nodeAt_get hj
    congr 1
    rw [List.filter_cons, hn]
    cases cs[j] <;> rfl
theorem usedN_taken (cs : Cs) : (taken cs).length = usedN cs := by
  have := taken_length cs cs.length (Nat.le_refl _)
  rw [List.take_length] at this
  unfold taken
  rw [List.length_map]
  exact this
theorem used_of {cs : Cs} {l : List Int} (hd : l.Nodup) (hm : ∀ c, c ∈ l ↔ (nodeAt cs c).isSome = true) : l.length = usedN cs := by
  rw [<- usedN_taken]
  exact ((List.perm_ext_iff_of_nodup hd (taken_nodup cs)).2 (fun c => (hm c).trans (mem_taken cs c).symm)).length_eq
theorem sweepS_get (marks : List Bool) (cs : Cs) : ∀ (j k : Nat), k < j -> j <= cs.length -> (sweepS marks cs j).1[k]? = if marks.getD k false = true then cs[k]? else some none
  | 0, k, h, _ => absurd h (by omega)
  | j + 1, k, h, hj => by
    have hl := sweepS_length marks cs j
    simp only [sweepS]
    rcases Nat.lt_or_ge k j with hk | hk
    · have ih := sweepS_get marks cs j k hk (by omega)
      split
      · rw [List.getElem?_set_ne (by omega)]
        exact ih
      · exact ih
    · obtain rfl : k = j := by omega
      have hkk : cs[k]? = some cs[k] := List.getElem?_eq_getElem (by omega)
      have hn := nodeAt_get hkk
      split
      · rename_i hc
        simp only
        rw [List.getElem?_set_self (by omega), if_neg (by rw [hc.2]; simp)]
      · rename_i hc
        rw [sweepS_at marks cs k k (Nat.le_refl _), hkk]
        split
        · rfl
        · rename_i hm
          rw [hn] at hc
          cases hcs : cs[k] with
          | none => rfl
          | some n => exact absurd ⟨by rw [hcs]; rfl, by simpa using hm⟩ hc
theorem sweepS_count (marks : List Bool) (cs : Cs) : ∀ j, j <= cs.length -> usedN (sweepS marks cs j).1 + (sweepS marks cs j).2 = usedN cs
  | 0, _ => rfl
  | j + 1, h => by
    have ih := sweepS_count marks cs j (by omega)
    simp only [sweepS]
    split
    · rename_i hc
      have hj : cs[j]? = some cs[j] := List.getElem?_eq_getElem (by omega)
      have hn := nodeAt_get hj
      rw [hn] at hc
      obtain ⟨n, hnn⟩ := Option.isSome_iff_exists.1 hc.1
      have := usedN_clear (sweepS marks cs j).1 j n (by rw [sweepS_at marks cs j j (Nat.le_refl _), hj, hnn])
      simp only
      omega
    · exact ih
theorem mk_getD {ms : List Bool} {k : Nat} : Mk ms (k : Int) ↔ ms.getD k false = true := by
  unfold Mk
  rw [Int.toNat_natCast, List.getD_eq_getElem?_getD]
  cases h : ms[k]? with
  | none => simp
  | some b => simp
theorem swept_in {cs : Cs} {ms : List Bool} (hl : ms.length = cs.length) {c : Int} (h0 : 0 <= c) (hm : Mk ms c) : nodeAt (sweepS ms cs cs.length).1 c = nodeAt cs c := by
  obtain ⟨k, rfl⟩ := Int.eq_ofNat_of_zero_le h0
  have hk : k < cs.length := by
    have := hm
    unfold Mk at this
    have := (List.getElem?_eq_some_iff.1 this).1
    omega
  have := sweepS_get ms cs cs.length k hk (Nat.le_refl _)
  rw [if_pos (mk_getD.1 hm)] at this
  unfold nodeAt
  rw [if_pos h0, if_pos h0, Int.toNat_natCast, this]
theorem swept_out {cs : Cs} {ms : List Bool} {c : Int} (h : (nodeAt (sweepS ms cs cs.length).1 c).isSome = true) : 0 <= c /\ Mk ms c := by
  have hlt := nodeAt_lt h
  rw [sweepS_length] at hlt
  obtain ⟨k, rfl⟩ := Int.eq_ofNat_of_zero_le hlt.1
  rw [Int.toNat_natCast] at hlt
  refine ⟨hlt.1, ?_⟩
  have := sweepS_get ms cs cs.length k hlt.2 (Nat.le_refl _)
  by_cases hm : ms.getD k false = true
  · exact mk_getD.2 hm
  · rw [if_neg hm] at this
    unfold nodeAt at h
    rw [if_pos hlt.1, Int.toNat_natCast, this] at h
    cases h
structure Left (cs cs' : Cs) (kept : List Int) (gone : Nat) : Prop where
  at_ : ∀ c, c ∈ kept -> nodeAt cs' c = nodeAt cs c /\ (nodeAt cs c).isSome = true
  used : usedN cs' = kept.length
  gone : usedN cs' + gone = usedN cs
theorem Bfs.left {cs : Cs} {root : Int} {kept : List Int} {ms : List Bool} (h : Bfs cs root kept []) (hd : Dfs cs [root] [] ms) : Left cs (sweepS ms cs cs.length).1 kept (sweepS ms cs cs.length).2 := by
  have hmk : ∀ c, c ∈ kept -> 0 <= c /\ Mk ms c := fun c hc => by
    have hr := h.sound c hc
    have h0 := (nodeAt_lt hr.some).1
    exact ⟨h0, (hd.done c h0).2 hr⟩
  refine ⟨fun c hc => ⟨swept_in hd.len (hmk c hc).1 (hmk c hc).2, (h.sound c hc).some⟩, (used_of h.dup (fun c => ?_)).symm, sweepS_count _ _ _ (Nat.le_refl _)⟩
  constructor
  · intro hc
    rw [swept_in hd.len (hmk c hc).1 (hmk c hc).2]
    exact (h.sound c hc).some
  · intro hc
    have hm := swept_out hc
    exact (h.done c).2 ((hd.done c hm.1).1 hm.2)
end Go.Proofs.YtdeneoknjeegbaaDoor.P
end
section
namespace Go.Proofs.YtdeneoknjeegbaaDoor.P
open Go.RowKit YtdeneoknjeegbaaDoorW.PrintWords YtdeneoknjeegbaaDoorW.PrintLast YtdeneoknjeegbaaDoorW.PrintMore
attribute [local go_sem] max2_int min2_int max_two min_two max_three min_three max_four min_four
def slices_Index_int_int.l0 : Nat -> List Int -> Int -> Int -> Int -> Option (Int)
  | 0, _, _, _, _ => none
  | k + 1, x0, x1, x7, x8 => if x8 < x7 then (if 0 <= x8 then (if x8 < (x0.length : Int) then (if x1 = (rd x0 x8) then (some x8) else (slices_Index_int_int.l0 k x0 x1 x7 (wrap64 (x8 + 1)))) else (none)) else (none)) else (some (-1))
def slices_Index_int_int.f (k : Nat) (l0 : List Int) (a1 : Int) : Option (Int) := slices_Index_int_int.l0 k l0 a1 (l0.length : Int) 0
theorem slices_Index_int_int.mono_l : ∀ k, (∀ y0 y1 y2 y3, LeO (slices_Index_int_int.l0 k y0 y1 y2 y3) (slices_Index_int_int.l0 (k + 1) y0 y1 y2 y3))
  | 0 => fun _ _ _ _ r h => by simp [slices_Index_int_int.l0] at h
  | k + 1 => by
    have ih0 := slices_Index_int_int.mono_l k
    · intro y0 y1 y2 y3
      unfold slices_Index_int_int.l0
      repeat' first
      | (with_reducible exact ih0 _ _ _ _)
      | (with_reducible exact LeO.refl _)
      | (with_reducible exact LeO.none _)
      | (with_reducible refine LeO.ite ?_ ?_)
      | (with_reducible refine LeO.bind ?_ (fun _ => ?_))
      | exact ih0 _ _ _ _
      | exact LeO.none _
      | refine LeO.ite ?_ ?_
      | refine LeO.bind ?_ (fun _ => ?_)
theorem slices_Index_int_int.mono : ∀ a0 a1 k, LeO (slices_Index_int_int.f k a0 a1) (slices_Index_int_int.f (k + 1) a0 a1) := by
  intro a0 a1 k
  have ih0 := slices_Index_int_int.mono_l k
  unfold slices_Index_int_int.f
  repeat' first
      | (with_reducible exact ih0 _ _ _ _)
      | (with_reducible exact LeO.refl _)
      | (with_reducible exact LeO.none _)
      | (with_reducible refine LeO.ite ?_ ?_)
      | (with_reducible refine LeO.bind ?_ (fun _ => ?_))
      | exact ih0 _ _ _ _
      | exact LeO.none _
      | refine LeO.ite ?_ ?_
      | refine LeO.bind ?_ (fun _ => ?_)
def slices_Contains_int_int.f (k : Nat) (l0 : List Int) (a1 : Int) : Option (Bool) := (slices_Index_int_int.f k l0 a1).bind fun t345 => (some (decide (t345 >= 0)))
theorem slices_Contains_int_int.mono : ∀ a0 a1 k, LeO (slices_Contains_int_int.f k a0 a1) (slices_Contains_int_int.f (k + 1) a0 a1) := by
  intro a0 a1 k
  unfold slices_Contains_int_int.f
  repeat' first
      | (with_reducible exact slices_Index_int_int.mono _ _ _)
      | (with_reducible exact LeO.refl _)
      | (with_reducible exact LeO.none _)
      | (with_reducible refine LeO.ite ?_ ?_)
      | (with_reducible refine LeO.bind ?_ (fun _ => ?_))
      | exact slices_Index_int_int.mono _ _ _
      | exact LeO.none _
      | refine LeO.ite ?_ ?_
      | refine LeO.bind ?_ (fun _ => ?_)
end Go.Proofs.YtdeneoknjeegbaaDoor.P
end
section
namespace Go.Proofs.YtdeneoknjeegbaaDoor.P
open Go.RowKit YtdeneoknjeegbaaDoor.Pure YtdeneoknjeegbaaDoorW.PrintWords YtdeneoknjeegbaaDoorW.PrintLast YtdeneoknjeegbaaDoorW.PrintMore
section
variable {P : Program} {ops : Array Oper} {rest : List Oper} {o : Oper} {a : Act} {Q' : Exit -> Act -> World -> Prop}
end
end Go.Proofs.YtdeneoknjeegbaaDoor.P
end
section
namespace Go.Proofs.YtdeneoknjeegbaaDoor.P
open Go.RowKit YtdeneoknjeegbaaDoor.Pure YtdeneoknjeegbaaDoorW.PrintWords YtdeneoknjeegbaaDoorW.PrintLast YtdeneoknjeegbaaDoorW.PrintMore

end Go.Proofs.YtdeneoknjeegbaaDoor.P
end
section
namespace Go.Proofs
open Go.Shelf
def Tryd.lays126_ren : Go.Shelf.Ren := ⟨fun | 126 => 106 | n => n, fun | 5 => 5 | 3 => 3 | 9 => 9 | n => n, fun | n => n⟩
def Tryd.lays131_ren : Go.Shelf.Ren := ⟨fun | 131 => 100 | 126 => 106 | n => n, fun | 5 => 5 | 3 => 3 | 9 => 9 | n => n, fun | n => n⟩
theorem Tryd.lays131 : Go.Proofs.Lays.n131 Tryd.prog Tryd.lays131_ren := {
  mixed := by kernel_rfl
  f126 := Tryd.func106.trans (congrArg some (by kernel_rfl))
  f131 := Tryd.func100.trans (congrArg some (by kernel_rfl))
  t3 := Tryd.underlying3
  a3 := Tryd.isAgg3
  z3 := Tryd.sizeOf3
  v3 := Tryd.zeroValue3
  t5 := Tryd.underlying5
  a5 := Tryd.isAgg5
  z5 := Tryd.sizeOf5
  v5 := Tryd.zeroValue5
  t9 := Tryd.underlying9
  a9 := Tryd.isAgg9
  z9 := Tryd.sizeOf9
  v9 := Tryd.zeroValue9 }
theorem Tryd.bits_LeadingZeros8 (x : Int) (w : World) (h0 : 0 <= x) (h1 : x <= 255) :
    Calls Tryd.prog 100 #[.int .u8 x] w fun e w' => e = .returned (.int .i64 (8 - (Lib.bitLen x.toNat : Int))) /\ w' = w := Any.bits_LeadingZeros8 Tryd.lays131 x w h0 h1
end Go.Proofs
end
section
namespace Go.Proofs.YtdeneoknjeegbaaDoor.P
open Go.RowKit YtdeneoknjeegbaaDoorW.PrintWords YtdeneoknjeegbaaDoorW.PrintLast YtdeneoknjeegbaaDoorW.PrintMore
def bits_LeadingZeros8.f (a0 : Int) : Option Int := if 0 <= a0 then (if a0 <= 255 then some (8 - (Lib.bitLen a0.toNat : Int)) else none) else none
theorem bits_LeadingZeros8.calls (a0 : Int) (r : Int) (w : World) (h : bits_LeadingZeros8.f a0 = some r) :
    Calls Tryd.prog 100 #[.int .u8 a0] w fun e w' => e = .returned (.int .i64 r) /\ Drawn0 w w' := by
  unfold bits_LeadingZeros8.f at h
  split at h
  case isFalse => cases h
  split at h
  case isFalse => cases h
  case isTrue h0 h1 =>
    obtain rfl := Option.some.inj h
    refine (Tryd.bits_LeadingZeros8 a0 w h0 h1).mono ?_
    rintro e w' ⟨rfl, rfl⟩
    exact ⟨rfl, Drawn0.refl _⟩
end Go.Proofs.YtdeneoknjeegbaaDoor.P
end
section
namespace Go.Proofs.YtdeneoknjeegbaaDoor.P
open Go.RowKit YtdeneoknjeegbaaDoorW.PrintWords YtdeneoknjeegbaaDoorW.PrintLast YtdeneoknjeegbaaDoorW.PrintMore
def bcommon : List Int -> List Int -> Int
  | x :: xs, y :: ys => if x = y then 8 + bcommon xs ys else 8 - (Lib.bitLen (Go.bits .xor .u8 x y).toNat : Int)
  | _, _ => 0
theorem xor_range (x y : Int) : 0 <= Go.bits .xor .u8 x y /\ Go.bits .xor .u8 x y <= 255 := by
  unfold Go.bits
  rw [IntKind.wrap_u8]
  omega
theorem bitLen_le8 : ∀ n : Fin 256, Lib.bitLen n.val <= 8 := by decide +kernel
theorem bcommon_nil (l : List Int) : bcommon l [] = 0 := by cases l <;> rfl
theorem bcommon_end {a b : List Int} {k : Nat} (h : k = min a.length b.length) : bcommon (a.drop k) (b.drop k) = 0 := by
  rcases Nat.le_total a.length b.length with hl | hl
  · rw [List.drop_eq_nil_of_le (show a.length <= k by omega)]
    rfl
  · rw [List.drop_eq_nil_of_le (show b.length <= k by omega)]
    exact bcommon_nil _
theorem bcommon_step {a b : List Int} {k : Nat} (ha : k < a.length) (hb : k < b.length) : bcommon (a.drop k) (b.drop k) = if rd a (k : Int) = rd b (k : Int) then 8 + bcommon (a.drop (k + 1)) (b.drop (k + 1)) else 8 - (Lib.bitLen (Go.bits .xor .u8 (rd a (k : Int)) (rd b (k : Int))).toNat : Int) := by
  have h1 : rd a (k : Int) = a[k] := by unfold rd; rw [Int.toNat_natCast, List.getD_eq_getElem?_getD, List.getElem?_eq_getElem ha]; rfl
  have h2 : rd b (k : Int) = b[k] := by unfold rd; rw [Int.toNat_natCast, List.getD_eq_getElem?_getD, List.getElem?_eq_getElem hb]; rfl
  rw [h1, h2, List.drop_eq_getElem_cons ha, List.drop_eq_getElem_cons hb]
  rfl
attribute [local go_sem] max2_int min2_int max_two min_two
theorem cut_meas {k n : Nat} (h : k < n) (hw : wrap64 ((k : Int) + 1) = ((k + 1 : Nat) : Int)) : n - (intOf (.int .i64 (wrap64 ((k : Int) + 1)))).toNat < n - (intOf (.int .i64 (k : Int))).toNat := by
  rw [hw]
  simp only [intOf, Int.toNat_natCast]
  omega
set_option maxHeartbeats 4000000 in
set_option maxRecDepth 100000 in
theorem common_calls (A0 A1 : Option Addr) (c0 c1 : Nat) (l0 l1 : List Int) (w : World) (h0 : Kd.C (Kd.int .u8) w A0 l0.length l0) (hc0 : l0.length <= c0) (h1 : Kd.C (Kd.int .u8) w A1 l1.length l1) (hc1 : l1.length <= c1) (hl : l0.length <= 1000000000000) :
    Calls Tryd.prog 86 #[.slice A0 l0.length c0, .slice A1 l1.length c1] w fun e w' => e = .returned (.int .i64 (bcommon l0 l1)) /\ Below w.heap.size w w' := by
  have H0 := z_ h0
  have H1 := z_ h1
  obtain ⟨n, hn⟩ : ∃ n, n = min l0.length l1.length := ⟨_, rfl⟩
  have e1 : (if l1.length < l0.length then (l1.length : Int) else (l0.length : Int)) = (n : Int) := by split <;> omega
  have e2 : (if (l1.length : Int) < (l0.length : Int) then (l1.length : Int) else (l0.length : Int)) = (n : Int) := by split <;> omega
  obtain ⟨i0, hi0, hzz⟩ := Option.map_eq_some_iff.1 (show (Tryd.prog.info? 5).map (fun i => (i.zero, i.size, i.bytes)) = some (some (.int .u8 0), 1, 1) by kernel_rfl)
  simp only [Prod.mk.injEq] at hzz
  have hlt : (l0.take n).length = n := by rw [List.length_take]; omega
  have hcut : ∀ W : World, (Instr.slice 31 (.slice A0 l0.length c0) none (some (.int .i64 (n : Int))) none).run Tryd.prog W = .ok (.slice A0 n c0) W := fun W => by
    have := (print_take_of (P := Tryd.prog) (Value.int .u8) 0 31 5 .i64 Tryd.underlying31 hi0 hzz.2.1 A0 c0 l0 (n : Int) (by omega) (by omega) hc0).1 W
    rw [Int.toNat_natCast, hlt] at this
    exact this
  have HN := z_ (And.intro hn hl)
  have HB := z_ (Below.refl w.heap.size w)
  clear h0 h1 hc0 hc1 hl hn hi0 hzz hlt i0
  go_enter Tryd.func86, Tryd.ntmps86
  go_wp2_with fail
  go_loopw [17] (fun v17 wr => ∃ k : Nat, k <= n /\ v17 = .int .i64 (k : Int) /\ Aside0 (bcommon l0 l1 = 8 * (k : Int) + bcommon (l0.drop k) (l1.drop k)) /\ Aside0 (Below w.heap.size w wr)) (fun v17 _ => n - (intOf v17).toNat)
  case atStart => exact ⟨0, Nat.zero_le _, rfl, ⟨by simp⟩, HB⟩
  case round =>
    clear HB e1 e2
    obtain ⟨k, hk, rfl, HE, HB⟩ := hrel
    by_cases hlt : k < n
    · have HK := z_ hlt
      have hd : decide ((k : Int) < (n : Int)) = true := decide_eq_true (by omega)
      have hd2 : decide (k < n) = true := decide_eq_true hlt
      have hd3 : (k : Int) < (n : Int) := by omega
      have ha : k < l0.length := by have := HN.out.1; omega
      have hb : k < l1.length := by have := HN.out.1; omega
      have hb3 : (k : Int) < (l1.length : Int) := by omega
      obtain ⟨a0, rfl, k0⟩ := Kd.at_int H0.out (k : Int) (by omega) (by omega)
      obtain ⟨a1, rfl, k1⟩ := Kd.at_int H1.out (k : Int) (by omega) (by omega)
      have hst := bcommon_step ha hb
      obtain ⟨x, hx⟩ : ∃ x, x = rd l0 (k : Int) := ⟨_, rfl⟩
      obtain ⟨y, hy⟩ : ∃ y, y = rd l1 (k : Int) := ⟨_, rfl⟩
      rw [<- hx] at k0 hst
      rw [<- hy] at k1 hst
      replace k0 := (HB.out.cell (World.block_lt_of_cell? w _ k0)).trans k0
      replace k1 := (HB.out.cell (World.block_lt_of_cell? w _ k1)).trans k1
      simp only [Int.toNat_natCast] at k0 k1
      clear hx hy hk ha
      by_cases hxy : x = y
      · have hne : (x != y) = false := by rw [hxy]; simp
        rw [if_pos hxy] at hst
        have HST := z_ hst
        clear hxy hst
        go_wp2_with fail
        have hkn := HK.out
        have hnn := HN.out
        have hw1 : wrap64 ((k : Int) + 1) = ((k + 1 : Nat) : Int) := by rw [wrap64_id _ (by omega)]; omega
        have hmeas := cut_meas (k := k) (n := n) HK.out hw1
        have hE : bcommon l0 l1 = 8 * (k : Int) + (8 + bcommon (l0.drop (k + 1)) (l1.drop (k + 1))) := by rw [HE.out, HST.out]
        go_roundw
        case measure => exact hmeas
        case rel => exact ⟨k + 1, HK.out, by rw [hw1], ⟨by rw [hE]; omega⟩, HB⟩
      · have hne : (x != y) = true := by simpa using hxy
        rw [if_neg hxy] at hst
        have HST := z_ hst
        clear hxy hst
        obtain ⟨z, hz⟩ : ∃ z, Go.bits .xor .u8 x y = z := ⟨_, rfl⟩
        have HZ := z_ (show 0 <= z /\ z <= 255 from hz ▸ xor_range x y)
        rw [hz] at HST
        have hzl := bitLen_le8 ⟨z.toNat, by have := HZ.out; omega⟩
        have hkn := HK.out
        have hnn := HN.out
        have hw8 : wrap64 (8 * (k : Int)) = 8 * (k : Int) := wrap64_id _ (by omega)
        have hw9 : wrap64 (8 * (k : Int) + (8 - (Lib.bitLen z.toNat : Int))) = 8 * (k : Int) + (8 - (Lib.bitLen z.toNat : Int)) := wrap64_id _ (by simp only at hzl; omega)
        have HW9 := z_ hw9
        clear hzl hkn hnn hw9
        go_wp2_with fail
        refine (bits_LeadingZeros8.calls z (8 - (Lib.bitLen z.toNat : Int)) _ (by unfold bits_LeadingZeros8.f; rw [if_pos HZ.out.1, if_pos HZ.out.2])).mono ?_
        rintro e w' ⟨rfl, hdr⟩
        have HBE := z_ (below_step HB.out hdr.below)
        clear hdr
        have hw9 := HW9.out
        go_wp2_with fail
        go_ret
        exact ⟨by show Ending.returned (.int .i64 (wrap64 (8 * (k : Int) + (8 - (Lib.bitLen z.toNat : Int))))) = _; rw [HW9.out, HE.out, HST.out], HBE.out⟩
    · obtain rfl : k = n := by omega
      have hd : decide ((k : Int) < (k : Int)) = false := decide_eq_false (by omega)
      have hd2 : decide (k < k) = false := decide_eq_false (by omega)
      have HKE := z_ (bcommon_end (a := l0) (b := l1) HN.out.1)
      have HW8 := z_ (wrap64_id (8 * (k : Int)) (by have := HN.out; omega))
      clear hk hlt
      go_wp2_with fail
      go_ret
      exact ⟨by show Ending.returned (.int .i64 (wrap64 (8 * (k : Int)))) = _; rw [HW8.out, HE.out, HKE.out, Int.add_zero], HB.out⟩
def bits_Common.f (l0 l1 : List Int) : Option Int := if l0.length <= 1000000000000 then some (bcommon l0 l1) else none
theorem bits_Common.calls (A0 : Option Addr) (c0 : Nat) (l0 : List Int) (A1 : Option Addr) (c1 : Nat) (l1 : List Int) (r : Int) (w : World) (hr0 : Kd.C (Kd.int .u8) w A0 l0.length l0) (hc0 : l0.length <= c0) (hr1 : Kd.C (Kd.int .u8) w A1 l1.length l1) (hc1 : l1.length <= c1) (h : bits_Common.f l0 l1 = some r) :
    Calls Tryd.prog 86 #[.slice A0 l0.length c0, .slice A1 l1.length c1] w fun e w' => e = .returned (.int .i64 r) /\ Below w.heap.size w w' := by
  unfold bits_Common.f at h
  split at h
  case isFalse => cases h
  case isTrue hl =>
    obtain rfl := Option.some.inj h
    exact common_calls A0 A1 c0 c1 l0 l1 w hr0 hc0 hr1 hc1 hl
end Go.Proofs.YtdeneoknjeegbaaDoor.P
end
section
namespace Go.Proofs.YtdeneoknjeegbaaDoor.P
open Go.RowKit YtdeneoknjeegbaaDoorW.PrintWords YtdeneoknjeegbaaDoorW.PrintLast YtdeneoknjeegbaaDoorW.PrintMore
def keyB (l : List Int) : List Int := ((min l.length 255 : Nat) : Int) :: l.take 255
theorem litB_R {w : World} (base : Nat) (hb : base <= w.heap.size) (x : Int) : Kd.R (Kd.int .u8) 5 (w.alloc (.cells #[.int .u8 x] 5)) base (fun _ => True) (.slice (some ⟨w.heap.size, 0, none⟩) 1 1) [x] :=
  ⟨fun _ _ => trivial, [.int .u8 x], by
    have h2 := World.ownsRow_lit (base := base) (e := 5) (size := 1) w #[.int .u8 x] 1 hb (by decide) (by rfl)
    exact (show (w.alloc (.cells #[.int .u8 x] 5)).ownsRow base 5 1 (.slice (some ⟨w.heap.size, 0, none⟩) 1 1) 1 [.int .u8 x] from by simpa using h2), Kd.reps_scalar [x]⟩
attribute [local go_sem] max2_int min2_int max_two min_two
theorem take255 (l : List Int) : l.take (min l.length 255) = l.take 255 := by
  rcases Nat.le_total l.length 255 with h | h
  · rw [Nat.min_eq_left h, List.take_length, List.take_of_length_le h]
  · rw [Nat.min_eq_right h]
end Go.Proofs.YtdeneoknjeegbaaDoor.P
end
section
namespace Go.Proofs.YtdeneoknjeegbaaDoor.P
open Go.RowKit YtdeneoknjeegbaaDoorW.PrintWords YtdeneoknjeegbaaDoorW.PrintLast YtdeneoknjeegbaaDoorW.PrintMore
theorem infoB : (Tryd.prog.info? 5).map (fun i => (i.zero, i.size, i.bytes)) = some (some (.int .u8 0), 1, 1) := by kernel_rfl
theorem cut0_run (A : Option Addr) (n c : Nat) (h : n <= c) (W : World) : (Instr.slice 31 (.slice A n c) none (some (.int .i64 0)) none).run Tryd.prog W = .ok (.slice A 0 c) W := by
  obtain ⟨i0, hi0, hzz⟩ := Option.map_eq_some_iff.1 infoB
  simp only [Prod.mk.injEq] at hzz
  have := (print_take_of (P := Tryd.prog) (Value.int .u8) 0 31 5 .i64 Tryd.underlying31 hi0 hzz.2.1 A c (List.replicate n 0) (0 : Int) (by omega) (by simp) (by simpa using h)).1 W
  simpa using this
set_option maxHeartbeats 4000000 in
set_option maxRecDepth 100000 in
theorem grow_calls (n : Int) (w : World) (h1 : 1 <= n) (h2 : n <= 1000000000000) :
    Calls Tryd.prog 99 #[.slice none 0 0, .int .i64 n] w fun e w' => ∃ v0_ : Value, e = .returned v0_ /\ Kd.R (Kd.int .u8) 5 w' w.heap.size (fun _ => True) v0_ [] /\ Below w.heap.size w w' := by
  have d1 : decide (n < 0) = false := decide_eq_false (by omega)
  have d2 : decide (0 < n) = true := decide_eq_true (by omega)
  have hw : wrap64 n = n := wrap64_id _ (by omega)
  have hc0 : ∀ W : World, (Instr.slice 31 (.slice none 0 0) none (some (.int .i64 0)) none).run Tryd.prog W = .ok (.slice none 0 0) W := fun W => cut0_run none 0 0 (Nat.le_refl _) W
  have HN := z_ (And.intro h1 h2)
  clear h1 h2
  go_enter Tryd.func99, Tryd.ntmps99
  go_wp2_with ((at_builtin; go_must (refine Kd.R_append_zeros (Kd.int .u8) (w0 := w) w.heap.size rfl (.tmp 20) (.tmp 21) 31 3 5 (.int .u8 0) 1 rfl Tryd.underlying31 Tryd.underlying3 infoB rfl (by decide) (by omega) (.slice none 0 0) [] (0 : Int) n (fun _ => True) rfl (congrArg (Value.int .i64) hw) ?aZ ?aF ?aO ?aN ?aB ?aS ?aL ?_; (case aZ => rfl); (case aF => exact (fun _ _ => trivial)); (case aO => exact Kd.R_nil _ _ _ _ _); (case aN => (have := HN.out; omega)); (case aB => exact Below.refl _ _); (case aS => exact Nat.le_refl _); (case aL => (have := HN.out; simp; omega)); intro v1 w1 hR1 hb1 hg1 hat1; obtain ⟨A', c', e'⟩ := Kd.R_slice hR1; subst e'; obtain ⟨m1, hm1⟩ : ∃ m, m = ([] ++ List.replicate n.toNat (0 : Int)).length := ⟨_, rfl⟩; rw [<- hm1] at hR1; rw [<- hm1]; have hmc := (Kd.R_reads' hR1).2.1; have hcut : ∀ W : World, (Instr.slice 31 (.slice A' m1 c') none (some (.int .i64 0)) none).run Tryd.prog W = .ok (.slice A' 0 c') W := (fun W => cut0_run A' m1 c' hmc W); have HR1 := z_ hR1; have HB1 := z_ hb1; clear hm1 hR1 hb1 hg1 hat1 hmc)))
  go_ret
  exact ⟨_, rfl, Kd.R_take HR1.out (m := 0) (Nat.zero_le _), HB1.out⟩
def Two (w : World) (g : Nat) (v1 v2 : Value) : Prop := w.heap[g]? = some (.cells [v1, v2].toArray 31 (0, 0))
theorem Two.below {w w1 : World} {g : Nat} {v1 v2 : Value} (h : Two w g v1 v2) (hb : Below w.heap.size w w1) : Two w1 g v1 v2 := blk_below h hb
theorem Two.cells {w : World} {g : Nat} {v1 v2 : Value} (h : Two w g v1 v2) : w.cell? ⟨g, 0, none⟩ = some v1 /\ w.cell? ⟨g, 1, none⟩ = some v2 := by
  have c0 := blk_cell h 0
  have c1 := blk_cell h 1
  simp at c0 c1
  exact ⟨c0, c1⟩
set_option maxHeartbeats 8000000 in
set_option maxRecDepth 100000 in
theorem concat2_calls {w : World} (g : Nat) (A1 A2 : Option Addr) (c1 c2 : Nat) (l1 l2 : List Int) (hg : Two w g (.slice A1 l1.length c1) (.slice A2 l2.length c2)) (h1 : Kd.C (Kd.int .u8) w A1 l1.length l1) (h2 : Kd.C (Kd.int .u8) w A2 l2.length l2)
    (hl1 : 1 <= l1.length) (hl : l1.length + l2.length <= 100000000000) :
    Calls Tryd.prog 85 #[.slice (some ⟨g, 0, none⟩) 2 2] w fun e w' => ∃ v0_ : Value, e = .returned v0_ /\ Kd.R (Kd.int .u8) 5 w' w.heap.size (fun _ => True) v0_ (l1 ++ l2) /\ Below w.heap.size w w' := by
  have HG := z_ hg
  have H1 := z_ h1
  have H2 := z_ h2
  obtain ⟨n1, hn1⟩ : ∃ n1, n1 = l1.length := ⟨_, rfl⟩
  obtain ⟨n2, hn2⟩ : ∃ n2, n2 = l2.length := ⟨_, rfl⟩
  have HN := z_ (show n1 = l1.length /\ n2 = l2.length /\ 1 <= n1 /\ n1 + n2 <= 100000000000 from ⟨hn1, hn2, by omega, by omega⟩)
  rw [<- hn1, <- hn2] at hg
  have HG := z_ hg
  clear hg h1 h2 hl1 hl hn1 hn2
  go_enter Tryd.func85, Tryd.ntmps85
  go_wp2_with fail
  go_loopw [3, 11] (fun v3 v11 wr => ∃ k : Nat, k <= 2 /\ v11 = .int .i64 (k : Int) /\ v3 = .int .i64 (if k = 0 then 0 else if k = 1 then (n1 : Int) else (n1 : Int) + (n2 : Int)) /\ Aside0 (Below w.heap.size w wr)) (fun _ v11 _ => 2 - (intOf v11).toNat)
  case atStart => exact ⟨0, by omega, rfl, rfl, ⟨Below.refl _ _⟩⟩
  case round =>
    obtain ⟨k, hk, rfl, rfl, HB⟩ := hrel
    obtain ⟨q0, q1⟩ := (HG.out.below HB.out).cells
    have hnn := HN.out
    have hw1 : wrap64 (0 + (n1 : Int)) = (n1 : Int) := by rw [wrap64_id _ (by omega)]; omega
    have hw2 : wrap64 ((n1 : Int) + (n2 : Int)) = (n1 : Int) + (n2 : Int) := by rw [wrap64_id _ (by omega)]
    have hw3 : wrap64 ((n1 : Int)) = (n1 : Int) := by rw [wrap64_id _ (by omega)]
    have d1 : decide ((n1 : Int) < 0) = false := decide_eq_false (by omega)
    have d2 : decide ((n1 : Int) + (n2 : Int) < 0) = false := decide_eq_false (by omega)
    have HW := z_ hw2
    clear hnn
    obtain rfl | rfl | rfl : k = 0 \/ k = 1 \/ k = 2 := by omega
    · go_wp2_with fail
      exact ⟨⟨1, by omega, rfl, by rw [hw3]; rfl, HB⟩, by simp [intOf]⟩
    · go_wp2_with fail
      exact ⟨⟨2, by omega, rfl, by rw [hw2]; rfl, HB⟩, by simp [intOf]⟩
    · clear hk q0 q1
      go_wp2_with fail
      refine (grow_calls ((n1 : Int) + (n2 : Int)) wr (by have := HN.out; omega) (by have := HN.out; omega)).mono ?_
      rintro e w2 ⟨v, rfl, hR, hb⟩
      obtain ⟨A, c, rfl⟩ := Kd.R_slice hR
      have HB2 := z_ (below_step HB.out hb)
      have HR2 := z_ (Kd.R_lower hR HB.out.size)
      clear hR hb HB hw1 hw2 hw3 d1 d2
      go_wp2_with fail
      go_loopw [6, 27] (fun v6 v27 wq => ∃ (k : Nat) (A : Option Addr) (n c : Nat), k <= 2 /\ v27 = .int .i64 (k : Int) /\ v6 = .slice A n c /\ Aside0 (Kd.R (Kd.int .u8) 5 wq w.heap.size (fun _ => True) (.slice A n c) (if k = 0 then [] else if k = 1 then l1 else l1 ++ l2)) /\ Aside0 (Below w.heap.size w wq)) (fun _ v27 _ => 2 - (intOf v27).toNat)
      case atStart => exact ⟨0, A, 0, c, by omega, rfl, rfl, HR2, HB2⟩
      case round =>
        clear HR2 HB2
        obtain ⟨k, A, n, c, hk, rfl, rfl, HR, HB⟩ := hrel
        obtain ⟨q0, q1⟩ := (HG.out.below HB.out).cells
        obtain rfl | rfl | rfl : k = 0 \/ k = 1 \/ k = 2 := by omega
        · replace HR := z_ (show Kd.R (Kd.int .u8) 5 _ w.heap.size (fun _ => True) (.slice A n c) ([] : List Int) from HR.out)
          go_wp2_with ((at_builtin; go_must (refine Kd.R_append_rows (Kd.int .u8) (w0 := w) w.heap.size rfl (.tmp 31) (.tmp 32) 31 5 (.int .u8 0) 1 rfl Tryd.underlying31 infoB rfl (by decide) (by omega) (.slice A n c) ([] : List Int) l1 A1 n1 c1 (fun _ => True) (fun _ => False) rfl rfl ?aO ?aR (fun _ _ h => h) (fun _ h => h.elim) ?aF ?aB ?aS ?aL ?_; (case aO => exact HR.out); (case aR => exact (by have := Kd.C_below H1.out HB.out; rw [<- HN.out.1] at this; exact this)); (case aF => exact (fun _ _ => trivial)); (case aB => exact HB.out); (case aS => exact HB.out.size); (case aL => (have := HN.out; simp; omega)); intro v1 w1 hR1 hb1 hg1 hat1; obtain ⟨A', c', e'⟩ := Kd.R_slice hR1; subst e'; obtain ⟨m1, hm1⟩ : ∃ m, m = (([] : List Int) ++ l1).length := ⟨_, rfl⟩; rw [<- hm1] at hR1; rw [<- hm1]; have HR1 := z_ hR1; have HB1 := z_ hb1; clear hm1 hR1 hb1 hg1 hat1)))
          exact ⟨⟨1, A', m1, c', by omega, rfl, rfl, HR1, HB1⟩, by simp [intOf]⟩
        · replace HR := z_ (show Kd.R (Kd.int .u8) 5 _ w.heap.size (fun _ => True) (.slice A n c) l1 from HR.out)
          go_wp2_with ((at_builtin; go_must (refine Kd.R_append_rows (Kd.int .u8) (w0 := w) w.heap.size rfl (.tmp 31) (.tmp 32) 31 5 (.int .u8 0) 1 rfl Tryd.underlying31 infoB rfl (by decide) (by omega) (.slice A n c) l1 l2 A2 n2 c2 (fun _ => True) (fun _ => False) rfl rfl ?aO ?aR (fun _ _ h => h) (fun _ h => h.elim) ?aF ?aB ?aS ?aL ?_; (case aO => exact HR.out); (case aR => exact (by have := Kd.C_below H2.out HB.out; rw [<- HN.out.2.1] at this; exact this)); (case aF => exact (fun _ _ => trivial)); (case aB => exact HB.out); (case aS => exact HB.out.size); (case aL => (have := HN.out; simp; omega)); intro v1 w1 hR1 hb1 hg1 hat1; obtain ⟨A', c', e'⟩ := Kd.R_slice hR1; subst e'; obtain ⟨m1, hm1⟩ : ∃ m, m = (l1 ++ l2).length := ⟨_, rfl⟩; rw [<- hm1] at hR1; rw [<- hm1]; have HR1 := z_ hR1; have HB1 := z_ hb1; clear hm1 hR1 hb1 hg1 hat1)))
          exact ⟨⟨2, A', m1, c', by omega, rfl, rfl, HR1, HB1⟩, by simp [intOf]⟩
        · clear hk q0 q1
          go_wp2_with fail
          go_ret
          exact ⟨_, rfl, HR.out, HB.out⟩
attribute [local go_sem] max2_int min2_int max_two min_two
set_option maxHeartbeats 4000000 in
set_option maxRecDepth 100000 in
theorem key_calls (A0 : Option Addr) (c0 : Nat) (l0 : List Int) (w : World) (h0 : Kd.C (Kd.int .u8) w A0 l0.length l0) (hc0 : l0.length <= c0) :
    Calls Tryd.prog 55 #[.slice A0 l0.length c0] w fun e w' => ∃ v0_ : Value, e = .returned v0_ /\ Kd.R (Kd.int .u8) 5 w' w.heap.size (fun _ => True) v0_ (keyB l0) /\ Below w.heap.size w w' := by
  have H0 := z_ h0
  obtain ⟨n, hn⟩ : ∃ n, n = min l0.length 255 := ⟨_, rfl⟩
  have e1 : (if 255 < l0.length then (255 : Int) else (l0.length : Int)) = (n : Int) := by split <;> omega
  have e2 : (if 255 < (l0.length : Int) then (255 : Int) else (l0.length : Int)) = (n : Int) := by split <;> omega
  have e3 : IntKind.u8.wrap (n : Int) = (n : Int) := by rw [IntKind.wrap_u8]; omega
  obtain ⟨i0, hi0, hzz⟩ := Option.map_eq_some_iff.1 infoB
  simp only [Prod.mk.injEq] at hzz
  have hlt : (l0.take n).length = n := by rw [List.length_take]; omega
  have hcut : ∀ W : World, (Instr.slice 31 (.slice A0 l0.length c0) none (some (.int .i64 (n : Int))) none).run Tryd.prog W = .ok (.slice A0 n c0) W := fun W => by
    have := (print_take_of (P := Tryd.prog) (Value.int .u8) 0 31 5 .i64 Tryd.underlying31 hi0 hzz.2.1 A0 c0 l0 (n : Int) (by omega) (by omega) hc0).1 W
    rw [Int.toNat_natCast, hlt] at this
    exact this
  have HT := z_ (show Kd.C (Kd.int .u8) w A0 (l0.take n).length (l0.take n) from Kd.C_take h0 (m := n) (by omega))
  have HN := z_ (And.intro hn hlt)
  clear h0 hc0 hn hi0 hzz hlt i0
  go_enter Tryd.func55, Tryd.ntmps55
  go_wp2_with fail
  obtain ⟨w2, hw2⟩ : ∃ w2, w2 = (w.alloc (.cells #[.int .u8 (n : Int)] 5)).alloc (.cells #[.slice (some ⟨w.heap.size, 0, none⟩) 1 1, .slice A0 n c0] 31) := ⟨_, rfl⟩
  rw [<- hw2]
  have hb12 : Below (w.alloc (.cells #[.int .u8 (n : Int)] 5)).heap.size (w.alloc (.cells #[.int .u8 (n : Int)] 5)) w2 := by rw [hw2]; exact below_alloc (Below.refl _ _) _
  have HB2 := z_ (show Below w.heap.size w w2 from by rw [hw2]; exact below_alloc (below_alloc (Below.refl _ _) _) _)
  have hR := Kd.R_below (litB_R (w := w) w.heap.size (Nat.le_refl _) (n : Int)) hb12
  have hT : Two w2 (w.heap.size + 1) (.slice (some ⟨w.heap.size, 0, none⟩) 1 1) (.slice A0 n c0) := by
    have := heap_alloc_new (w.alloc (.cells #[.int .u8 (n : Int)] 5)) (.cells #[.slice (some ⟨w.heap.size, 0, none⟩) 1 1, .slice A0 n c0] 31)
    rw [hw2]
    simpa [Two] using this
  clear hw2 hb12
  refine (concat2_calls (w.heap.size + 1) (some ⟨w.heap.size, 0, none⟩) A0 1 c0 [(n : Int)] (l0.take n) (by rw [HN.out.2]; exact hT) (Kd.R_reads' hR).2.2 (Kd.C_below HT.out HB2.out) (by simp) (by rw [HN.out.2]; have := HN.out.1; simp; omega)).mono ?_
  rintro e w3 ⟨v, rfl, hR3, hb3⟩
  have HR3 := z_ (Kd.R_lower hR3 HB2.out.size)
  have HB3 := z_ (below_step HB2.out hb3)
  clear hR hT hR3 hb3
  go_wp2_with fail
  go_ret
  have he : [(n : Int)] ++ l0.take n = keyB l0 := by unfold keyB; rw [HN.out.1, take255]; rfl
  exact ⟨_, rfl, by rw [<- he]; exact HR3.out, HB3.out⟩
end Go.Proofs.YtdeneoknjeegbaaDoor.P
end
section
namespace Go.Proofs.YtdeneoknjeegbaaDoor.P
open Go.RowKit YtdeneoknjeegbaaDoorW.PrintWords YtdeneoknjeegbaaDoorW.PrintLast YtdeneoknjeegbaaDoorW.PrintMore
attribute [local go_sem] max2_int min2_int max_two min_two max_three min_three max_four min_four
def bits_Begins.f (l0 : List Int) (l1 : List Int) (a2 : Int) : Option (Bool) := if a2 < 1 then (some true) else (if a2 <= (wrap64 (8 * (mn (l0.length : Int) (l1.length : Int)))) then ((bits_Common.f l0 l1).bind fun t358 => (some (decide (t358 >= a2)))) else (some false))
set_option maxHeartbeats 8000000 in
set_option maxRecDepth 100000 in
theorem bits_Begins.calls (A0 : Option Addr) (c0 : Nat) (l0 : List Int) (A1 : Option Addr) (c1 : Nat) (l1 : List Int) (a2 : Int) (r : Bool) (w : World) (hr0 : Kd.C (Kd.int .u8) w A0 l0.length l0) (hc0 : l0.length <= c0) (hr1 : Kd.C (Kd.int .u8) w A1 l1.length l1) (hc1 : l1.length <= c1) (h : bits_Begins.f l0 l1 a2 = some r) :
    Calls Tryd.prog 83 #[.slice A0 l0.length c0, .slice A1 l1.length c1, .int .i64 a2] w fun e w' => e = .returned (.bool r) /\ Below w.heap.size w w' := by
  have HR0 := z_ hr0
  have HC0 := z_ hc0
  clear hr0 hc0
  have HR1 := z_ hr1
  have HC1 := z_ hc1
  clear hr1 hc1
  have HB := z_ (Below.refl w.heap.size w)
  have H : (if a2 < 1 then (some true) else (if a2 <= (wrap64 (8 * (mn (l0.length : Int) (l1.length : Int)))) then ((bits_Common.f l0 l1).bind fun t358 => (some (decide (t358 >= a2)))) else (some false))) = some r := h
  clear h
  by_cases c4 : a2 < 1
  · rw [if_pos c4] at H
    have c4b0 : decide (a2 < 1) = true := decide_eq_true c4
    clear c4
    obtain rfl := Option.some.inj H
    go_enter Tryd.func83, Tryd.ntmps83
    go_wp2
    go_ret
    exact ⟨by first | rfl | (simp [errW_none, errW_some] <;> rfl) | (simp [*, errW_none, errW_some] <;> rfl), by repeat (first | (with_reducible first | exact HB.out | apply below_alloc | apply pw_below_drewN | apply below_drew1) | exact HB.out)⟩
  · rw [if_neg c4] at H
    have c4b0 : decide (a2 < 1) = false := decide_eq_false c4
    clear c4
    obtain ⟨ji5, hji5⟩ : ∃ j_ : Int, (mn (l0.length : Int) (l1.length : Int)) = j_ := ⟨_, rfl⟩
    replace H : (if a2 <= (wrap64 (8 * (ji5))) then ((bits_Common.f l0 l1).bind fun t358 => (some (decide (t358 >= a2)))) else (some false)) = some r := by first | (rw [hji5] at H; exact H) | (simp only [hji5] at H ⊢; exact H)
    (try (have hji5l : 0 <= ji5 := by (rw [<- hji5]; unfold mn; (repeat' split) <;> omega)))
    (try (have hji5m : 0 <= ji5 := by omega))
    have hji5_ : (if (l1.length : Int) < (l0.length : Int) then (l1.length : Int) else (l0.length : Int)) = ji5 := hji5
    (try (have hji5n_ : (if l1.length < l0.length then (l1.length : Int) else (l0.length : Int)) = ji5 := (by rw [<- hji5_]; split <;> split <;> omega)))
    by_cases c6 : a2 <= (wrap64 (8 * (ji5)))
    · rw [if_pos c6] at H
      have c6b0 : decide (a2 <= (wrap64 (8 * (ji5)))) = true := decide_eq_true c6
      clear c6
      replace H := Option.bind_eq_some_iff.mp H
      obtain ⟨t358, A70, H⟩ := H
      replace H : (some (decide (t358 >= a2))) = some r := H
      have A7 := z_ A70
      clear A70
      obtain rfl := Option.some.inj H
      go_enter Tryd.func83, Tryd.ntmps83
      go_wp2_with (first | (go_at_call 86; (with_reducible refine (bits_Common.calls _ _ l0 _ _ l1 t358 _ ?side1 ?side2 ?side3 ?side4 A7.out).mono ?_); (case side1 => repeat (first | exact HR0.out | (with_reducible refine Kd.C_alloc ?_ _) | (with_reducible refine Kd.C_drewN ?_ _) | (with_reducible refine Kd.C_drew ?_))); (case side2 => exact HC0.out); (case side3 => repeat (first | exact HR1.out | (with_reducible refine Kd.C_alloc ?_ _) | (with_reducible refine Kd.C_drewN ?_ _) | (with_reducible refine Kd.C_drew ?_))); (case side4 => exact HC1.out); rintro e w8 ⟨rfl, hb⟩; have n0_ := z_ (below_step (by repeat (first | (with_reducible first | exact HB.out | apply below_alloc | apply pw_below_drewN | apply below_drew1) | exact HB.out)) hb); clear HB; have HB := n0_; clear n0_; (try clear hb); (try clear hb2); (try clear hk); (try clear hi)))
      go_ret
      exact ⟨by first | rfl | (simp [errW_none, errW_some] <;> rfl) | (simp only [<- hji5]; first | rfl | (simp [errW_none, errW_some] <;> rfl)) | (simp [*, errW_none, errW_some] <;> rfl), by repeat (first | (with_reducible first | exact HB.out | apply below_alloc | apply pw_below_drewN | apply below_drew1) | exact HB.out)⟩
    · rw [if_neg c6] at H
      have c6b0 : decide (a2 <= (wrap64 (8 * (ji5)))) = false := decide_eq_false c6
      clear c6
      obtain rfl := Option.some.inj H
      go_enter Tryd.func83, Tryd.ntmps83
      go_wp2
      go_ret
      exact ⟨by first | rfl | (simp [errW_none, errW_some] <;> rfl) | (simp only [<- hji5]; first | rfl | (simp [errW_none, errW_some] <;> rfl)) | (simp [*, errW_none, errW_some] <;> rfl), by repeat (first | (with_reducible first | exact HB.out | apply below_alloc | apply pw_below_drewN | apply below_drew1) | exact HB.out)⟩
def bits_Bit.j0 : Nat -> List Int -> Int -> Bool -> Option (Int)
  | 0, _, _, _ => none
  | k + 1, x0, x1, x13 => if x13 = true then (some (-1)) else (if 0 <= (x1 / 8) then (if (x1 / 8) < (x0.length : Int) then (if 0 <= (Go.bits .and .i64 x1 7) then (if (Go.bits .and .u8 (rd x0 (x1 / 8)) (shr .u8 128 (Go.bits .and .i64 x1 7))) = 0 then (some 0) else (some 1)) else (none)) else (none)) else (none))
def bits_Bit.f (k : Nat) (l0 : List Int) (a1 : Int) : Option (Int) := if a1 < 0 then (bits_Bit.j0 k l0 a1 true) else (bits_Bit.j0 k l0 a1 (decide ((a1 / 8) >= (l0.length : Int))))
theorem bits_Bit.mono_l : ∀ k, (∀ y0 y1 y2, LeO (bits_Bit.j0 k y0 y1 y2) (bits_Bit.j0 (k + 1) y0 y1 y2))
  | 0 => fun _ _ _ r h => by simp [bits_Bit.j0] at h
  | k + 1 => by
    have ih0 := bits_Bit.mono_l k
    · intro y0 y1 y2
      unfold bits_Bit.j0
      repeat' first
      | (with_reducible exact ih0 _ _ _)
      | (with_reducible exact LeO.refl _)
      | (with_reducible exact LeO.none _)
      | (with_reducible refine LeO.ite ?_ ?_)
      | (with_reducible refine LeO.bind ?_ (fun _ => ?_))
      | exact ih0 _ _ _
      | exact LeO.none _
      | refine LeO.ite ?_ ?_
      | refine LeO.bind ?_ (fun _ => ?_)
theorem bits_Bit.mono : ∀ a0 a1 k, LeO (bits_Bit.f k a0 a1) (bits_Bit.f (k + 1) a0 a1) := by
  intro a0 a1 k
  have ih0 := bits_Bit.mono_l k
  unfold bits_Bit.f
  repeat' first
      | (with_reducible exact ih0 _ _ _)
      | (with_reducible exact LeO.refl _)
      | (with_reducible exact LeO.none _)
      | (with_reducible refine LeO.ite ?_ ?_)
      | (with_reducible refine LeO.bind ?_ (fun _ => ?_))
      | exact ih0 _ _ _
      | exact LeO.none _
      | refine LeO.ite ?_ ?_
      | refine LeO.bind ?_ (fun _ => ?_)
set_option maxHeartbeats 8000000 in
set_option maxRecDepth 100000 in
theorem bits_Bit.calls (k : Nat) (A0 : Option Addr) (c0 : Nat) (l0 : List Int) (a1 : Int) (r : Int) (w : World) (hr0 : Kd.C (Kd.int .u8) w A0 l0.length l0) (hc0 : l0.length <= c0) (h : bits_Bit.f k l0 a1 = some r) :
    Calls Tryd.prog 58 #[.slice A0 l0.length c0, .int .i64 a1] w fun e w' => e = .returned (.int .i64 r) /\ Drawn0 w w' := by
  have HR0 := z_ hr0
  have HC0 := z_ hc0
  clear hr0 hc0
  have H : (if a1 < 0 then (bits_Bit.j0 k l0 a1 true) else (bits_Bit.j0 k l0 a1 (decide ((a1 / 8) >= (l0.length : Int))))) = some r := h
  clear h
  have HC3 := z_ H
  clear H
  go_enter Tryd.func58, Tryd.ntmps58
  go_upto_region 1 with (fail)
  repeat (go_quiet (fail); go_upto_region 1 with (fail))
  go_cut [13] (fun v13 wc => ∃ (kq : Nat) (x13_2 : Bool), v13 = .bool x13_2 /\ Aside0 (bits_Bit.j0 kq l0 a1 x13_2 = some r) /\ Aside0 (kq <= k) /\ Drawn0 w wc)
  case first =>
    have H := HC3.out
    clear HC3
    by_cases c4 : a1 < 0
    · rw [if_pos c4] at H
      have c4b0 : decide (a1 < 0) = true := decide_eq_true c4
      clear c4
      (first | rw [c4b0] | (simp only [i64_w, i32_w]; rw [c4b0]) | skip)
      have H' := z_ H
      clear H
      go_wp2
      repeat (go_quiet (fail); try go_wp2)
      go_meet
      case rel => exact ⟨_, (true), (by first | rfl | (simp; done) | (simp [*]; done)), H', ⟨by first | omega | exact Nat.le_refl _⟩, by repeat (first | exact Drawn0.refl _ | apply Drawn0.step)⟩
    · rw [if_neg c4] at H
      have c4b0 : decide (a1 < 0) = false := decide_eq_false c4
      clear c4
      (first | rw [c4b0] | (simp only [i64_w, i32_w]; rw [c4b0]) | skip)
      have H' := z_ H
      clear H
      go_wp2
      repeat (go_quiet (fail); try go_wp2)
      go_meet
      case rel => exact ⟨_, (decide ((a1 / 8) >= (l0.length : Int))), (by first | rfl | (simp; done) | (simp [*]; done)), H', ⟨by first | omega | exact Nat.le_refl _⟩, by repeat (first | exact Drawn0.refl _ | apply Drawn0.step)⟩
  case rest =>
    clear HC3
    try clear p2
    try clear c4
    try clear c4b0
    obtain ⟨kq, x13_2, rfl, HA, HJ2, ⟨mc2, rfl⟩⟩ := hcut
    cases kq with
    | zero => exact absurd HA.out (by simp [bits_Bit.j0])
    | succ kj2 =>
      have H := HA.out
      clear HA
      simp only [bits_Bit.j0] at H
      by_cases c5 : x13_2 = true
      · subst c5
        have H1 : (some (-1)) = some r := by rw [if_pos rfl] at H; exact H
        clear H
        have H := H1
        clear H1
        obtain rfl := Option.some.inj H
        go_wp2
        repeat (go_quiet (fail); try go_wp2)
        go_ret
        exact ⟨by first | rfl | (simp; done) | (simp [*]; done), by repeat (first | exact Drawn0.refl _ | apply Drawn0.step)⟩
      · replace c5 := Bool.eq_false_iff.mpr c5
        subst c5
        have H1 : (if 0 <= (a1 / 8) then (if (a1 / 8) < (l0.length : Int) then (if 0 <= (Go.bits .and .i64 a1 7) then (if (Go.bits .and .u8 (rd l0 (a1 / 8)) (shr .u8 128 (Go.bits .and .i64 a1 7))) = 0 then (some 0) else (some 1)) else (none)) else (none)) else (none)) = some r := by rw [if_neg (show ¬ (false = true) by decide)] at H; exact H
        clear H
        have H := H1
        clear H1
        obtain ⟨ji6, hji6⟩ : ∃ j_ : Int, (a1 / 8) = j_ := ⟨_, rfl⟩
        replace H : (if 0 <= (ji6) then (if (ji6) < (l0.length : Int) then (if 0 <= (Go.bits .and .i64 a1 7) then (if (Go.bits .and .u8 (rd l0 (ji6)) (shr .u8 128 (Go.bits .and .i64 a1 7))) = 0 then (some 0) else (some 1)) else (none)) else (none)) else (none)) = some r := by first | (rw [hji6] at H; exact H) | (simp only [hji6] at H ⊢; exact H)
        by_cases c7 : 0 <= (ji6)
        · rw [if_pos c7] at H
          have c7b0 : decide (0 <= (ji6)) = true := decide_eq_true c7
          clear c7
          by_cases c8 : (ji6) < (l0.length : Int)
          · rw [if_pos c8] at H
            have c8b0 : decide ((ji6) < (l0.length : Int)) = true := decide_eq_true c8
            clear c8
            by_cases c9 : 0 <= (Go.bits .and .i64 a1 7)
            · rw [if_pos c9] at H
              have c9b0 := eq_true c9
              have c9b1 : decide (0 <= (Go.bits .and .i64 a1 7)) = true := decide_eq_true c9
              clear c9
              obtain ⟨ji10, hji10⟩ : ∃ j_ : Int, (shr .u8 128 (Go.bits .and .i64 a1 7)) = j_ := ⟨_, rfl⟩
              replace H : (if (Go.bits .and .u8 (rd l0 (ji6)) (ji10)) = 0 then (some 0) else (some 1)) = some r := by first | (rw [hji10] at H; exact H) | (simp only [hji10] at H ⊢; exact H)
              have hji10_ : (128 / 2 ^ min (Go.bits .and .i64 a1 7).toNat 8) = ji10 := hji10
              have hji10z : (Go.bits .and .i64 a1 7) <= 8 -> (128 / 2 ^ (Go.bits .and .i64 a1 7).toNat) = ji10 := shr_small hji10
              by_cases c11 : (Go.bits .and .u8 (rd l0 (ji6)) (ji10)) = 0
              · rw [if_pos c11] at H
                have c11b0 : ((Go.bits .and .u8 (rd l0 (ji6)) (ji10)) == 0) = true := beq_iff_eq.mpr c11
                have c11b1 : ((Go.bits .and .u8 (rd l0 (ji6)) (ji10)) != 0) = false := bne_eq_false_iff_eq.mpr c11
                clear c11
                obtain rfl := Option.some.inj H
                have p359 : 0 <= ((ji6) : Int) := of_decide_eq_true (by first | (with_reducible assumption) | assumption)
                have q359 : (ji6) < (l0.length : Int) := of_decide_eq_true (by first | (with_reducible assumption) | assumption)
                obtain ⟨ad359, e359, hx359_0⟩ := Kd.at_int HR0.out (ji6) p359 q359
                cases e359
                replace p359 := eq_true p359
                replace q359 := eq_true q359
                go_wp2
                repeat (go_quiet (fail); try go_wp2)
                go_ret
                exact ⟨by first | rfl | (simp; done) | (simp only [<- hji6, <- hji10] <;> (first | rfl | simp)) | (simp [*]; done), by repeat (first | exact Drawn0.refl _ | apply Drawn0.step)⟩
              · rw [if_neg c11] at H
                have c11b0 : ((Go.bits .and .u8 (rd l0 (ji6)) (ji10)) == 0) = false := beq_eq_false_iff_ne.mpr c11
                have c11b1 : ((Go.bits .and .u8 (rd l0 (ji6)) (ji10)) != 0) = true := bne_iff_ne.mpr c11
                obtain rfl := Option.some.inj H
                have p359 : 0 <= ((ji6) : Int) := of_decide_eq_true (by first | (with_reducible assumption) | assumption)
                have q359 : (ji6) < (l0.length : Int) := of_decide_eq_true (by first | (with_reducible assumption) | assumption)
                obtain ⟨ad359, e359, hx359_0⟩ := Kd.at_int HR0.out (ji6) p359 q359
                cases e359
                replace p359 := eq_true p359
                replace q359 := eq_true q359
                go_wp2
                repeat (go_quiet (fail); try go_wp2)
                go_ret
                exact ⟨by first | rfl | (simp; done) | (simp only [<- hji6, <- hji10] <;> (first | rfl | simp)) | (simp [*]; done), by repeat (first | exact Drawn0.refl _ | apply Drawn0.step)⟩
            · rw [if_neg c9] at H
              exact absurd H (by simp)
          · rw [if_neg c8] at H
            exact absurd H (by simp)
        · rw [if_neg c7] at H
          exact absurd H (by simp)
def ptree_below.f (k : Nat) (a0_0 : Bool) (l0_1 : List Int) (l0_2 : List Int) (a0_3 : Int) (a0_4 : Int) (l0_5 : List Int) (a0_6 : Int) (a0_7 : Int) (a0_8 : Int) (l0_9 : List Int) (l1 : List Int) : Option (Int) := (bits_Bit.f k l1 a0_4).bind fun t361 => (if t361 = 1 then (some a0_8) else (some a0_7))
theorem ptree_below.mono : ∀ a0 a1 a2 a3 a4 a5 a6 a7 a8 a9 a10 k, LeO (ptree_below.f k a0 a1 a2 a3 a4 a5 a6 a7 a8 a9 a10) (ptree_below.f (k + 1) a0 a1 a2 a3 a4 a5 a6 a7 a8 a9 a10) := by
  intro a0 a1 a2 a3 a4 a5 a6 a7 a8 a9 a10 k
  unfold ptree_below.f
  repeat' first
      | (with_reducible exact bits_Bit.mono _ _ _)
      | (with_reducible exact LeO.refl _)
      | (with_reducible exact LeO.none _)
      | (with_reducible refine LeO.ite ?_ ?_)
      | (with_reducible refine LeO.bind ?_ (fun _ => ?_))
      | exact bits_Bit.mono _ _ _
      | exact LeO.none _
      | refine LeO.ite ?_ ?_
      | refine LeO.bind ?_ (fun _ => ?_)
set_option maxHeartbeats 8000000 in
set_option maxRecDepth 100000 in
theorem ptree_below.calls (k : Nat) (a0_0 : Bool) (A0_1 : Option Addr) (c0_1 : Nat) (l0_1 : List Int) (A0_2 : Option Addr) (c0_2 : Nat) (l0_2 : List Int) (a0_3 : Int) (a0_4 : Int) (A0_5 : Option Addr) (c0_5 : Nat) (l0_5 : List Int) (a0_6 : Int) (a0_7 : Int) (a0_8 : Int) (A0_9 : Option Addr) (c0_9 : Nat) (l0_9 : List Int) (A1 : Option Addr) (c1 : Nat) (l1 : List Int) (r : Int) (w : World) (hr0_1 : Kd.C (Kd.int .u8) w A0_1 l0_1.length l0_1) (hc0_1 : l0_1.length <= c0_1) (hr0_2 : Kd.C (Kd.int .u8) w A0_2 l0_2.length l0_2) (hc0_2 : l0_2.length <= c0_2) (hr0_5 : Kd.C (Kd.int .u8) w A0_5 l0_5.length l0_5) (hc0_5 : l0_5.length <= c0_5) (hr0_9 : Kd.C (Kd.int .u8) w A0_9 l0_9.length l0_9) (hc0_9 : l0_9.length <= c0_9) (hr1 : Kd.C (Kd.int .u8) w A1 l1.length l1) (hc1 : l1.length <= c1) (h : ptree_below.f k a0_0 l0_1 l0_2 a0_3 a0_4 l0_5 a0_6 a0_7 a0_8 l0_9 l1 = some r) :
    Calls Tryd.prog 84 #[.agg #[.bool a0_0, .slice A0_1 l0_1.length c0_1, .slice A0_2 l0_2.length c0_2, .int .i64 a0_3, .int .i64 a0_4, .slice A0_5 l0_5.length c0_5, .int .i64 a0_6, .int .i64 a0_7, .int .i64 a0_8, .slice A0_9 l0_9.length c0_9], .slice A1 l1.length c1] w fun e w' => e = .returned (.int .i64 r) /\ Below w.heap.size w w' := by
  have hu39 := Tryd.underlying39
  have HR0_1 := z_ hr0_1
  have HC0_1 := z_ hc0_1
  clear hr0_1 hc0_1
  have HR0_2 := z_ hr0_2
  have HC0_2 := z_ hc0_2
  clear hr0_2 hc0_2
  have HR0_5 := z_ hr0_5
  have HC0_5 := z_ hc0_5
  clear hr0_5 hc0_5
  have HR0_9 := z_ hr0_9
  have HC0_9 := z_ hc0_9
  clear hr0_9 hc0_9
  have HR1 := z_ hr1
  have HC1 := z_ hc1
  clear hr1 hc1
  have HB := z_ (Below.refl w.heap.size w)
  have H : ((bits_Bit.f k l1 a0_4).bind fun t361 => (if t361 = 1 then (some a0_8) else (some a0_7))) = some r := h
  clear h
  replace H := Option.bind_eq_some_iff.mp H
  obtain ⟨t361, A30, H⟩ := H
  replace H : (if t361 = 1 then (some a0_8) else (some a0_7)) = some r := H
  have A3 := z_ A30
  clear A30
  by_cases c4 : t361 = 1
  · rw [if_pos c4] at H
    have c4b0 : (t361 == 1) = true := beq_iff_eq.mpr c4
    have c4b1 : (t361 != 1) = false := bne_eq_false_iff_eq.mpr c4
    clear c4
    obtain rfl := Option.some.inj H
    go_enter Tryd.func84, Tryd.ntmps84
    go_wp2_with (first | ((with_reducible refine gate_dst (N := 2) rfl ?_); refine box_event ?hg (N := 2) ?hd (cs := #[.bool a0_0, .slice A0_1 l0_1.length c0_1, .slice A0_2 l0_2.length c0_2, .int .i64 a0_3, .int .i64 a0_4, .slice A0_5 l0_5.length c0_5, .int .i64 a0_6, .int .i64 a0_7, .int .i64 a0_8, .slice A0_9 l0_9.length c0_9]) (t := 39) ?hr ?_; (case hd => rfl); (case hg => rfl); (case hr => first | (go_simp; done) | (go_simp; rfl)); intro gb360 hg w5 hbox hb; have n0_ := z_ (below_step (by repeat (first | (with_reducible first | exact HB.out | apply below_alloc | apply pw_below_drewN | apply below_drew1) | exact HB.out)) hb); have n1_ := z_ (hbox); have n2_ := z_ ((by rw [hg]; exact (below_size (by repeat (first | (with_reducible first | exact HB.out | apply below_alloc | apply pw_below_drewN | apply below_drew1) | exact HB.out))) : w.heap.size <= gb360)); have n3_ := z_ ((by rw [hg]; exact (below_size (by repeat (first | (with_reducible first | exact HB.out | apply below_alloc | apply pw_below_drewN | apply below_drew1) | exact HB.out))) : w.heap.size <= gb360)); clear HB; have HB := n0_; have BK360 := n1_; have GW360 := n2_; have GE360 := n3_; clear n0_ n1_ n2_ n3_; clear hb hbox hg; have hcz6_0 : w5.cell? ⟨gb360, 0, none⟩ = some (.bool a0_0) := (blk_cell BK360.out 0).trans rfl; have hcz6_1 : w5.cell? ⟨gb360, 1, none⟩ = some (.slice A0_1 l0_1.length c0_1) := (blk_cell BK360.out 1).trans rfl; have hcz6_2 : w5.cell? ⟨gb360, 2, none⟩ = some (.slice A0_2 l0_2.length c0_2) := (blk_cell BK360.out 2).trans rfl; have hcz6_3 : w5.cell? ⟨gb360, 3, none⟩ = some (.int .i64 a0_3) := (blk_cell BK360.out 3).trans rfl; have hcz6_4 : w5.cell? ⟨gb360, 4, none⟩ = some (.int .i64 a0_4) := (blk_cell BK360.out 4).trans rfl; have hcz6_5 : w5.cell? ⟨gb360, 5, none⟩ = some (.slice A0_5 l0_5.length c0_5) := (blk_cell BK360.out 5).trans rfl; have hcz6_6 : w5.cell? ⟨gb360, 6, none⟩ = some (.int .i64 a0_6) := (blk_cell BK360.out 6).trans rfl; have hcz6_7 : w5.cell? ⟨gb360, 7, none⟩ = some (.int .i64 a0_7) := (blk_cell BK360.out 7).trans rfl; have hcz6_8 : w5.cell? ⟨gb360, 8, none⟩ = some (.int .i64 a0_8) := (blk_cell BK360.out 8).trans rfl; have hcz6_9 : w5.cell? ⟨gb360, 9, none⟩ = some (.slice A0_9 l0_9.length c0_9) := (blk_cell BK360.out 9).trans rfl; have hfz6_0 := blk_frozen BK360.out 0; have hfz6_1 := blk_frozen BK360.out 1; have hfz6_2 := blk_frozen BK360.out 2; have hfz6_3 := blk_frozen BK360.out 3; have hfz6_4 := blk_frozen BK360.out 4; have hfz6_5 := blk_frozen BK360.out 5; have hfz6_6 := blk_frozen BK360.out 6; have hfz6_7 := blk_frozen BK360.out 7; have hfz6_8 := blk_frozen BK360.out 8; have hfz6_9 := blk_frozen BK360.out 9) | ((with_reducible refine gate_callee (f := 58) rfl ?_); refine goesL_ (some 8) rfl rfl Tryd.func58 (by kernel_rfl) rfl #[.slice A1 l1.length c1, .int .i64 a0_4] rfl (by (try simp only [List.map_toArray, List.map_cons, List.map_nil]); first | done | rfl | (simp only [List.length_drop, List.length_take]; rfl)) ?_; (with_reducible refine (bits_Bit.calls k _ _ l1 a0_4 t361 _ ?side1 ?side2 A3.out).mono ?_); (case side1 => repeat (first | exact (Kd.C_below HR1.out HB.out) | (with_reducible refine Kd.C_alloc ?_ _) | (with_reducible refine Kd.C_drewN ?_ _) | (with_reducible refine Kd.C_drew ?_))); (case side2 => exact HC1.out); rintro e w' ⟨rfl, ⟨nd, rfl⟩⟩; refine ⟨_, rfl, ?_⟩))
    go_ret
    exact ⟨by first | rfl | (simp [errW_none, errW_some] <;> rfl) | (simp [*, errW_none, errW_some] <;> rfl), by repeat (first | (with_reducible first | exact HB.out | apply below_alloc | apply pw_below_drewN | apply below_drew1 | refine below_set ?_ GE360.out) | exact HB.out)⟩
  · rw [if_neg c4] at H
    have c4b0 : (t361 == 1) = false := beq_eq_false_iff_ne.mpr c4
    have c4b1 : (t361 != 1) = true := bne_iff_ne.mpr c4
    obtain rfl := Option.some.inj H
    go_enter Tryd.func84, Tryd.ntmps84
    go_wp2_with (first | ((with_reducible refine gate_dst (N := 2) rfl ?_); refine box_event ?hg (N := 2) ?hd (cs := #[.bool a0_0, .slice A0_1 l0_1.length c0_1, .slice A0_2 l0_2.length c0_2, .int .i64 a0_3, .int .i64 a0_4, .slice A0_5 l0_5.length c0_5, .int .i64 a0_6, .int .i64 a0_7, .int .i64 a0_8, .slice A0_9 l0_9.length c0_9]) (t := 39) ?hr ?_; (case hd => rfl); (case hg => rfl); (case hr => first | (go_simp; done) | (go_simp; rfl)); intro gb360 hg w7 hbox hb; have n0_ := z_ (below_step (by repeat (first | (with_reducible first | exact HB.out | apply below_alloc | apply pw_below_drewN | apply below_drew1) | exact HB.out)) hb); have n1_ := z_ (hbox); have n2_ := z_ ((by rw [hg]; exact (below_size (by repeat (first | (with_reducible first | exact HB.out | apply below_alloc | apply pw_below_drewN | apply below_drew1) | exact HB.out))) : w.heap.size <= gb360)); have n3_ := z_ ((by rw [hg]; exact (below_size (by repeat (first | (with_reducible first | exact HB.out | apply below_alloc | apply pw_below_drewN | apply below_drew1) | exact HB.out))) : w.heap.size <= gb360)); clear HB; have HB := n0_; have BK360 := n1_; have GW360 := n2_; have GE360 := n3_; clear n0_ n1_ n2_ n3_; clear hb hbox hg; have hcz8_0 : w7.cell? ⟨gb360, 0, none⟩ = some (.bool a0_0) := (blk_cell BK360.out 0).trans rfl; have hcz8_1 : w7.cell? ⟨gb360, 1, none⟩ = some (.slice A0_1 l0_1.length c0_1) := (blk_cell BK360.out 1).trans rfl; have hcz8_2 : w7.cell? ⟨gb360, 2, none⟩ = some (.slice A0_2 l0_2.length c0_2) := (blk_cell BK360.out 2).trans rfl; have hcz8_3 : w7.cell? ⟨gb360, 3, none⟩ = some (.int .i64 a0_3) := (blk_cell BK360.out 3).trans rfl; have hcz8_4 : w7.cell? ⟨gb360, 4, none⟩ = some (.int .i64 a0_4) := (blk_cell BK360.out 4).trans rfl; have hcz8_5 : w7.cell? ⟨gb360, 5, none⟩ = some (.slice A0_5 l0_5.length c0_5) := (blk_cell BK360.out 5).trans rfl; have hcz8_6 : w7.cell? ⟨gb360, 6, none⟩ = some (.int .i64 a0_6) := (blk_cell BK360.out 6).trans rfl; have hcz8_7 : w7.cell? ⟨gb360, 7, none⟩ = some (.int .i64 a0_7) := (blk_cell BK360.out 7).trans rfl; have hcz8_8 : w7.cell? ⟨gb360, 8, none⟩ = some (.int .i64 a0_8) := (blk_cell BK360.out 8).trans rfl; have hcz8_9 : w7.cell? ⟨gb360, 9, none⟩ = some (.slice A0_9 l0_9.length c0_9) := (blk_cell BK360.out 9).trans rfl; have hfz8_0 := blk_frozen BK360.out 0; have hfz8_1 := blk_frozen BK360.out 1; have hfz8_2 := blk_frozen BK360.out 2; have hfz8_3 := blk_frozen BK360.out 3; have hfz8_4 := blk_frozen BK360.out 4; have hfz8_5 := blk_frozen BK360.out 5; have hfz8_6 := blk_frozen BK360.out 6; have hfz8_7 := blk_frozen BK360.out 7; have hfz8_8 := blk_frozen BK360.out 8; have hfz8_9 := blk_frozen BK360.out 9) | ((with_reducible refine gate_callee (f := 58) rfl ?_); refine goesL_ (some 8) rfl rfl Tryd.func58 (by kernel_rfl) rfl #[.slice A1 l1.length c1, .int .i64 a0_4] rfl (by (try simp only [List.map_toArray, List.map_cons, List.map_nil]); first | done | rfl | (simp only [List.length_drop, List.length_take]; rfl)) ?_; (with_reducible refine (bits_Bit.calls k _ _ l1 a0_4 t361 _ ?side1 ?side2 A3.out).mono ?_); (case side1 => repeat (first | exact (Kd.C_below HR1.out HB.out) | (with_reducible refine Kd.C_alloc ?_ _) | (with_reducible refine Kd.C_drewN ?_ _) | (with_reducible refine Kd.C_drew ?_))); (case side2 => exact HC1.out); rintro e w' ⟨rfl, ⟨nd, rfl⟩⟩; refine ⟨_, rfl, ?_⟩))
    go_ret
    exact ⟨by first | rfl | (simp [errW_none, errW_some] <;> rfl) | (simp [*, errW_none, errW_some] <;> rfl), by repeat (first | (with_reducible first | exact HB.out | apply below_alloc | apply pw_below_drewN | apply below_drew1 | refine below_set ?_ GE360.out) | exact HB.out)⟩
end Go.Proofs.YtdeneoknjeegbaaDoor.P
end
section
namespace Go.Proofs.YtdeneoknjeegbaaDoor.P
open Go.RowKit YtdeneoknjeegbaaDoor.Pure YtdeneoknjeegbaaDoorW.PrintWords YtdeneoknjeegbaaDoorW.PrintLast YtdeneoknjeegbaaDoorW.PrintMore
theorem strNum_eq {a b : List Int} (ha : BytesOk a) (hb : BytesOk b) : ((strOfNums a).toList == (strOfNums b).toList) = decide (a = b) := by
  have key : ∀ {a b : List Int}, BytesOk a -> BytesOk b -> (a.map fun n => UInt8.ofNat n.toNat) = (b.map fun n => UInt8.ofNat n.toNat) -> a = b := by
    intro a
    induction a with
    | nil => intro b _ _ h; cases b <;> simp_all
    | cons x xs ih =>
      intro b ha hb h
      cases b with
      | nil => simp at h
      | cons y ys =>
        simp only [List.map_cons, List.cons.injEq] at h
        have hx := ha x (by simp)
        have hy := hb y (by simp)
        have h1 := congrArg UInt8.toNat h.1
        simp only [UInt8.toNat_ofNat'] at h1
        have h2 := ih (fun z hz => ha z (List.mem_cons_of_mem _ hz)) (fun z hz => hb z (List.mem_cons_of_mem _ hz)) h.2
        rw [h2, show x = y by omega]
  rw [ByteArray.toList_eq, ByteArray.toList_eq, strOfNums_data, strOfNums_data, Bool.eq_iff_iff, beq_iff_eq, decide_eq_true_eq]
  exact ⟨key ha hb, fun h => by rw [h]⟩
def beginsB (l p : List Int) (n : Int) : Bool := if n < 1 then true else if n <= 8 * (min l.length p.length : Nat) then decide (n <= bcommon l p) else false
theorem begins_f (l p : List Int) (n : Int) (hl : l.length <= 1000000000000) : bits_Begins.f l p n = some (beginsB l p n) := by
  have hw : wrap64 (8 * mn (l.length : Int) (p.length : Int)) = 8 * ((min l.length p.length : Nat) : Int) := by
    unfold mn
    rw [wrap64_id _ (by split <;> omega)]
    split <;> omega
  unfold bits_Begins.f beginsB
  rw [hw]
  unfold bits_Common.f
  rw [if_pos hl]
  by_cases h1 : n < 1
  · rw [if_pos h1, if_pos h1]
  · rw [if_neg h1, if_neg h1]
    by_cases h2 : n <= 8 * ((min l.length p.length : Nat) : Int)
    · rw [if_pos h2, if_pos h2]
      rfl
    · rw [if_neg h2, if_neg h2]
def bitP (l : List Int) (a : Int) : Int := (bits_Bit.f 1 l a).getD 0
theorem bit_f (k : Nat) (l : List Int) (a : Int) : bits_Bit.f (k + 1) l a = some (bitP l a) := by
  have h7 : 0 <= Go.bits .and .i64 a 7 := by rw [and7]; omega
  have key : ∀ (k : Nat) (x : Bool), (x = false -> 0 <= a / 8 /\ a / 8 < (l.length : Int)) -> ∃ r, ∀ j, bits_Bit.j0 (j + 1) l a x = some r := by
    intro k x hx
    cases x with
    | true => exact ⟨-1, fun j => rfl⟩
    | false =>
      obtain ⟨h1, h2⟩ := hx rfl
      by_cases hz : Go.bits .and .u8 (rd l (a / 8)) (shr .u8 128 (Go.bits .and .i64 a 7)) = 0
      · exact ⟨0, fun j => by simp only [bits_Bit.j0]; rw [if_neg (by simp), if_pos h1, if_pos h2, if_pos h7, if_pos hz]⟩
      · exact ⟨1, fun j => by simp only [bits_Bit.j0]; rw [if_neg (by simp), if_pos h1, if_pos h2, if_pos h7, if_neg hz]⟩
  unfold bitP bits_Bit.f
  by_cases h0 : a < 0
  · simp only [if_pos h0]
    obtain ⟨r, hr⟩ := key 0 true (fun h => by cases h)
    rw [hr k, hr 0]
    rfl
  · simp only [if_neg h0]
    obtain ⟨r, hr⟩ := key 0 (decide (a / 8 >= (l.length : Int))) (fun h => ⟨by omega, by have := of_decide_eq_false h; omega⟩)
    rw [hr k, hr 0]
    rfl
def belowB (n : Nd) (row : List Int) : Int := if bitP row n.f4 = 1 then n.f8 else n.f7
theorem below_f (k : Nat) (n : Nd) (row : List Int) : ptree_below.f (k + 1) n.f0 n.f1 n.f2 n.f3 n.f4 n.f5 n.f6 n.f7 n.f8 n.f9 row = some (belowB n row) := by
  unfold ptree_below.f belowB
  rw [bit_f]
  simp only [Option.bind_some]
  split <;> rfl
inductive PT
  | leaf (n : Nd)
  | fork (n : Nd) (l r : PT)
def PT.h : PT -> Nat
  | .leaf _ => 0
  | .fork _ l r => max l.h r.h + 1
def IsT (cs : Cs) : Int -> PT -> Prop
  | i, .leaf n => nodeAt cs i = some n /\ n.f0 = true
  | i, .fork n l r => nodeAt cs i = some n /\ n.f0 = false /\ IsT cs n.f7 l /\ IsT cs n.f8 r
structure Spot where
  forks : List Nd
  at_ : Int
  node : Nd
  same : Bool
def Spot.cons (n : Nd) (s : Spot) : Spot := ⟨n :: s.forks, s.at_, s.node, s.same⟩
def findT (row id : List Int) : Int -> PT -> Spot
  | i, .leaf n => ⟨[], i, n, decide (n.f1 = id)⟩
  | i, .fork n l r => if beginsB row n.f5 n.f4 then (if bitP row n.f4 = 1 then (findT row id n.f8 r).cons n else (findT row id n.f7 l).cons n) else ⟨[], i, n, false⟩
def findO (row id : List Int) (i : Int) : Option PT -> Spot
  | none => ⟨[], -1, z39, false⟩
  | some t => findT row id i t
def IsO (cs : Cs) (i : Int) : Option PT -> Prop
  | none => nodeAt cs i = none
  | some t => IsT cs i t
def heightO : Option PT -> Nat
  | none => 0
  | some t => t.h
theorem formR {α : Type} {d : Kd α} {e base : Nat} {ok : Nat -> Prop} {w : World} {v : Value} {xs : List α} (h : d.R e w base ok v xs) : ∃ A n c, v = .slice A n c := by
  obtain ⟨A, c, e⟩ := Kd.R_slice h
  exact ⟨A, _, c, e⟩
end Go.Proofs.YtdeneoknjeegbaaDoor.P
end
section
namespace Go.Proofs.YtdeneoknjeegbaaDoor.P
open Go.RowKit YtdeneoknjeegbaaDoorW.PrintWords YtdeneoknjeegbaaDoorW.PrintLast YtdeneoknjeegbaaDoorW.PrintMore
attribute [local go_sem] max2_int min2_int max_two min_two max_three min_three max_four min_four
def annalsref03_Bit.f (l0 : List Int) (a1 : Int) : Option (Int) := if a1 < 0 then (some (-1)) else (if (wrap64 (Int.tdiv a1 8)) >= (l0.length : Int) then (some (-1)) else (if 0 <= (wrap64 (Int.tdiv a1 8)) then (if (wrap64 (Int.tdiv a1 8)) < (l0.length : Int) then (if 0 <= (wrap64 (7 - (Int.tmod a1 8))) then (some (Go.bits .and .i64 (wrap64 (shr .u8 (rd l0 (wrap64 (Int.tdiv a1 8))) (wrap64 (7 - (Int.tmod a1 8))))) 1)) else (none)) else (none)) else (none)))
def annalsref03_Common.l0 : Nat -> List Int -> List Int -> Int -> Option (Int)
  | 0, _, _, _ => none
  | k + 1, x0, x1, x5 => (annalsref03_Bit.f x0 x5).bind fun t377 => (if t377 >= 0 then ((annalsref03_Bit.f x0 x5).bind fun t378 => ((annalsref03_Bit.f x1 x5).bind fun t379 => (if t378 = t379 then (annalsref03_Common.l0 k x0 x1 (wrap64 (x5 + 1))) else (some x5)))) else (some x5))
def annalsref03_Common.f (k : Nat) (l0 : List Int) (l1 : List Int) : Option (Int) := annalsref03_Common.l0 k l0 l1 0
theorem annalsref03_Common.mono_l : ∀ k, (∀ y0 y1 y2, LeO (annalsref03_Common.l0 k y0 y1 y2) (annalsref03_Common.l0 (k + 1) y0 y1 y2))
  | 0 => fun _ _ _ r h => by simp [annalsref03_Common.l0] at h
  | k + 1 => by
    have ih0 := annalsref03_Common.mono_l k
    · intro y0 y1 y2
      unfold annalsref03_Common.l0
      repeat' first
      | (with_reducible exact ih0 _ _ _)
      | (with_reducible exact LeO.refl _)
      | (with_reducible exact LeO.none _)
      | (with_reducible refine LeO.ite ?_ ?_)
      | (with_reducible refine LeO.bind ?_ (fun _ => ?_))
      | exact ih0 _ _ _
      | exact LeO.none _
      | refine LeO.ite ?_ ?_
      | refine LeO.bind ?_ (fun _ => ?_)
theorem annalsref03_Common.mono : ∀ a0 a1 k, LeO (annalsref03_Common.f k a0 a1) (annalsref03_Common.f (k + 1) a0 a1) := by
  intro a0 a1 k
  have ih0 := annalsref03_Common.mono_l k
  unfold annalsref03_Common.f
  repeat' first
      | (with_reducible exact ih0 _ _ _)
      | (with_reducible exact LeO.refl _)
      | (with_reducible exact LeO.none _)
      | (with_reducible refine LeO.ite ?_ ?_)
      | (with_reducible refine LeO.bind ?_ (fun _ => ?_))
      | exact ih0 _ _ _
      | exact LeO.none _
      | refine LeO.ite ?_ ?_
      | refine LeO.bind ?_ (fun _ => ?_)
def annalsref03_Begins.f (k : Nat) (l0 : List Int) (l1 : List Int) (a2 : Int) : Option (Bool) := if a2 < 1 then (some true) else (if (wrap64 (Int.tdiv a2 8)) <= (l0.length : Int) then (if a2 <= (wrap64 (8 * (l0.length : Int))) then (if a2 <= (wrap64 (8 * (l1.length : Int))) then ((annalsref03_First.f k l0 a2).bind fun t380 => ((annalsref03_First.f k l1 a2).bind fun t383 => ((annalsref03_Common.f k t380 t383).bind fun t386 => (some (decide (t386 >= a2)))))) else (some false)) else (some false)) else (some false))
theorem annalsref03_Begins.mono : ∀ a0 a1 a2 k, LeO (annalsref03_Begins.f k a0 a1 a2) (annalsref03_Begins.f (k + 1) a0 a1 a2) := by
  intro a0 a1 a2 k
  unfold annalsref03_Begins.f
  repeat' first
      | (with_reducible exact annalsref03_Common.mono _ _ _)
      | (with_reducible exact annalsref03_First.mono _ _ _)
      | (with_reducible exact LeO.refl _)
      | (with_reducible exact LeO.none _)
      | (with_reducible refine LeO.ite ?_ ?_)
      | (with_reducible refine LeO.bind ?_ (fun _ => ?_))
      | exact annalsref03_Common.mono _ _ _
      | exact annalsref03_First.mono _ _ _
      | exact LeO.none _
      | refine LeO.ite ?_ ?_
      | refine LeO.bind ?_ (fun _ => ?_)
end Go.Proofs.YtdeneoknjeegbaaDoor.P
end
section
namespace Go.Proofs.YtdeneoknjeegbaaDoor.P
open Go.RowKit YtdeneoknjeegbaaDoor.Pure YtdeneoknjeegbaaDoorW.PrintWords YtdeneoknjeegbaaDoorW.PrintLast YtdeneoknjeegbaaDoorW.PrintMore
def bitX (x : Int) (j : Nat) : Int := x / 2 ^ (7 - j) % 2
def bitN : List Int -> Nat -> Int
  | [], _ => -1
  | x :: xs, i => if i < 8 then bitX x i else bitN xs (i - 8)
theorem bitX_range (x : Int) (j : Nat) : 0 <= bitX x j /\ bitX x j <= 1 := by unfold bitX; omega
theorem bitN_at : ∀ (l : List Int) (i : Nat), bitN l i = if i / 8 < l.length then bitX (l.getD (i / 8) 0) (i % 8) else -1
  | [], i => by simp [bitN]
  | x :: xs, i => by
    unfold bitN
    by_cases h : i < 8
    · rw [if_pos h, if_pos (by simp; omega), show i / 8 = 0 by omega, show i % 8 = i by omega]
      rfl
    · rw [if_neg h, bitN_at xs (i - 8)]
      have h1 : i / 8 = (i - 8) / 8 + 1 := by omega
      have h2 : (i - 8) % 8 = i % 8 := by omega
      rw [h1, h2, List.length_cons]
      by_cases h3 : (i - 8) / 8 < xs.length
      · rw [if_pos h3, if_pos (by omega)]
        rfl
      · rw [if_neg h3, if_neg (by omega)]
theorem top_bit : ∀ z : Fin 256, z.val ≠ 0 -> Lib.bitLen z.val <= 8 /\ 0 < Lib.bitLen z.val /\ (∀ j : Fin 8, j.val < 8 - Lib.bitLen z.val -> z.val.testBit (7 - j.val) = false) /\ z.val.testBit (Lib.bitLen z.val - 1) = true := by decide +kernel
theorem bitX_test (x : Nat) (j : Nat) : bitX (x : Int) j = ((x.testBit (7 - j)).toNat : Int) := by
  unfold bitX
  rw [Nat.toNat_testBit]
  norm_cast
theorem xor_nat (x y : Nat) (hx : x < 256) (hy : y < 256) : (Go.bits .xor .u8 (x : Int) (y : Int)).toNat = x ^^^ y := by
  rw [u8_xor_nat x y hx hy]
  exact Int.toNat_natCast _
theorem byte_part (x y : Int) (hx : 0 <= x /\ x <= 255) (hy : 0 <= y /\ y <= 255) (h : x ≠ y) : ∃ d : Nat, d < 8 /\ (8 - (Lib.bitLen (Go.bits .xor .u8 x y).toNat : Int)) = (d : Int) /\ (∀ j, j < d -> bitX x j = bitX y j) /\ bitX x d ≠ bitX y d := by
  obtain ⟨a, rfl⟩ := Int.eq_ofNat_of_zero_le hx.1
  obtain ⟨b, rfl⟩ := Int.eq_ofNat_of_zero_le hy.1
  rw [xor_nat a b (by omega) (by omega)]
  have hz : a ^^^ b < 256 := Nat.xor_lt_two_pow (n := 8) (by omega) (by omega)
  have hne : a ^^^ b ≠ 0 := fun he => h (by
    have : a = b := Nat.eq_of_testBit_eq (fun i => by
      have h0 := congrArg (fun q : Nat => q.testBit i) he
      simp only [Nat.testBit_xor, Nat.zero_testBit] at h0
      cases ha : a.testBit i <;> cases hb : b.testBit i <;> simp_all)
    rw [this])
  obtain ⟨h1, h2, h3, h4⟩ := top_bit ⟨a ^^^ b, hz⟩ hne
  simp only at h1 h2 h3 h4
  refine ⟨8 - Lib.bitLen (a ^^^ b), by omega, by omega, fun j hj => ?_, ?_⟩
  · have := h3 ⟨j, by omega⟩ hj
    simp only [Nat.testBit_xor] at this
    rw [bitX_test, bitX_test]
    cases ha : a.testBit (7 - j) <;> cases hb : b.testBit (7 - j) <;> simp_all
  · rw [show Lib.bitLen (a ^^^ b) - 1 = 7 - (8 - Lib.bitLen (a ^^^ b)) by omega] at h4
    rw [bitX_test, bitX_test]
    simp only [Nat.testBit_xor] at h4
    cases ha : a.testBit (7 - (8 - Lib.bitLen (a ^^^ b))) <;> cases hb : b.testBit (7 - (8 - Lib.bitLen (a ^^^ b))) <;> simp_all
theorem bcommon_spec : ∀ (a b : List Int), BytesOk a -> BytesOk b -> ∃ m : Nat, bcommon a b = (m : Int) /\ m <= 8 * min a.length b.length /\ (∀ i, i < m -> bitN a i = bitN b i /\ 0 <= bitN a i) /\ (bitN a m < 0 \/ bitN a m ≠ bitN b m)
  | [], b, _, _ => ⟨0, rfl, by simp, fun i h => absurd h (by omega), .inl (by simp [bitN])⟩
  | x :: xs, [], _, _ => ⟨0, rfl, by simp, fun i h => absurd h (by omega), .inr (by
      have := (bitX_range x 0).1
      simp only [bitN]
      rw [if_pos (by omega)]
      omega)⟩
  | x :: xs, y :: ys, ha, hb => by
    have hx := ha x (by simp)
    have hy := hb y (by simp)
    by_cases he : x = y
    · subst he
      obtain ⟨m, h1, h2, h3, h4⟩ := bcommon_spec xs ys (fun z hz => ha z (List.mem_cons_of_mem _ hz)) (fun z hz => hb z (List.mem_cons_of_mem _ hz))
      refine ⟨8 + m, ?_, ?_, fun i hi => ?_, ?_⟩
      · unfold bcommon
        rw [if_pos rfl, h1]
        omega
      · simp only [List.length_cons]
        omega
      · unfold bitN
        by_cases h8 : i < 8
        · rw [if_pos h8, if_pos h8]
          exact ⟨rfl, (bitX_range _ _).1⟩
        · rw [if_neg h8, if_neg h8]
          exact h3 (i - 8) (by omega)
      · unfold bitN
        rw [if_neg (by omega), if_neg (by omega), show 8 + m - 8 = m by omega]
        exact h4
    · obtain ⟨d, hd, h1, h2, h3⟩ := byte_part x y hx hy he
      refine ⟨d, ?_, ?_, fun i hi => ?_, ?_⟩
      · unfold bcommon
        rw [if_neg he, h1]
      · simp only [List.length_cons]
        omega
      · unfold bitN
        rw [if_pos (by omega), if_pos (by omega)]
        exact ⟨h2 i hi, (bitX_range _ _).1⟩
      · right
        unfold bitN
        rw [if_pos hd, if_pos hd]
        exact h3
theorem common_ge {a b : List Int} (ha : BytesOk a) (hb : BytesOk b) (n : Nat) : (n : Int) <= bcommon a b ↔ ∀ i, i < n -> bitN a i = bitN b i /\ 0 <= bitN a i := by
  obtain ⟨m, h1, h2, h3, h4⟩ := bcommon_spec a b ha hb
  rw [h1]
  constructor
  · intro h i hi
    exact h3 i (by omega)
  · intro h
    rcases Nat.lt_or_ge m n with hlt | hge
    · have := h m hlt
      rcases h4 with h4 | h4
      · omega
      · exact absurd this.1 h4
    · omega
theorem andP_byte : ∀ (x : Fin 256) (j : Fin 8), (if Go.bits .and .u8 (x.val : Int) (shr .u8 128 (j.val : Int)) = 0 then (0 : Int) else 1) = (x.val : Int) / 2 ^ (7 - j.val) % 2 := by decide +kernel
theorem rd_nat (l : List Int) (i : Nat) : rd l (i : Int) = l.getD i 0 := by unfold rd; rw [Int.toNat_natCast]
theorem bitN_eq (l : List Int) (i : Nat) (h : i / 8 < l.length) : bitN l i = l.getD (i / 8) 0 / 2 ^ (7 - i % 8) % 2 := by
  rw [bitN_at, if_pos h]
  rfl
theorem bitN_off (l : List Int) (i : Nat) (h : l.length <= i / 8) : bitN l i = -1 := by
  rw [bitN_at, if_neg (by omega)]
theorem bitP_eq (l : List Int) (hb : BytesOk l) (i : Nat) : bitP l (i : Int) = bitN l i := by
  unfold bitP bits_Bit.f
  rw [if_neg (by omega)]
  have hd : (i : Int) / 8 = ((i / 8 : Nat) : Int) := by omega
  rw [hd]
  by_cases h : l.length <= i / 8
  · rw [decide_eq_true (by omega), bitN_off l i h]
    rfl
  · rw [decide_eq_false (by omega), bitN_eq l i (by omega)]
    simp only [bits_Bit.j0]
    rw [if_neg (by simp), hd, if_pos (by omega), if_pos (by omega), and7, if_pos (by omega), rd_nat]
    have hx := BytesOk.get hb (i / 8)
    have h8 := andP_byte ⟨(l.getD (i / 8) 0).toNat, by omega⟩ ⟨i % 8, by omega⟩
    simp only [Int.toNat_of_nonneg hx.1] at h8
    have hm : (i : Int) % 8 = ((i % 8 : Nat) : Int) := by omega
    rw [hm]
    rw [<- h8]
    split <;> rfl
theorem cut_bit : ∀ (o : Fin 8) (x : Fin 256) (j : Fin 8), j.val < o.val -> Go.bits .and .u8 (x.val : Int) (255 * 2 ^ (8 - o.val) % 256) / 2 ^ (7 - j.val) % 2 = (x.val : Int) / 2 ^ (7 - j.val) % 2 := by decide +kernel
theorem getD_take (l : List Int) (m j : Nat) (h : j < m) : (l.take m).getD j 0 = l.getD j 0 := by
  rw [List.getD_eq_getElem?_getD, List.getD_eq_getElem?_getD, List.getElem?_take, if_pos h]
theorem bitN_first (l : List Int) (hb : BytesOk l) (n : Nat) (h1 : 1 <= n) (hn : n <= 8 * l.length) (i : Nat) (hi : i < n) : bitN (firstB l (n : Int)) i = bitN l i := by
  unfold firstB
  by_cases h8 : 8 * (l.length : Int) <= (n : Int)
  · rw [if_pos h8]
  rw [if_neg h8, if_neg (by omega), Int.toNat_natCast]
  obtain ⟨m, hm⟩ : ∃ m, m = bitBytes n := ⟨_, rfl⟩
  have hm' : m = (n - 1) / 8 + 1 := hm
  have htl : (l.take m).length = m := by rw [List.length_take]; omega
  have hil : i / 8 < l.length := by omega
  unfold firstBits
  rw [<- hm]
  by_cases h0 : n % 8 = 0
  · rw [if_pos h0, bitN_eq _ i (by rw [htl]; omega), bitN_eq l i hil, getD_take l m _ (by omega)]
  · rw [if_neg h0, bitN_eq _ i (by rw [List.length_set, htl]; omega), bitN_eq l i hil]
    rw [List.getD_eq_getElem?_getD, List.getElem?_set]
    by_cases hj : m - 1 = i / 8
    · rw [if_pos hj, if_pos (by rw [htl]; omega)]
      simp only [Option.getD_some]
      rw [hj, getD_take l m _ (by omega)]
      have hx := BytesOk.get hb (i / 8)
      have hc := cut_bit ⟨n % 8, by omega⟩ ⟨(l.getD (i / 8) 0).toNat, by omega⟩ ⟨i % 8, by omega⟩ (by simp only; omega)
      simp only [Int.toNat_of_nonneg hx.1] at hc
      unfold cutByte
      rw [show (8 - ((n % 8 : Nat) : Int)).toNat = 8 - n % 8 by omega]
      exact hc
    · rw [if_neg hj, <- List.getD_eq_getElem?_getD, getD_take l m _ (by omega)]
def wayT (row : List Int) : Int -> PT -> List Int × Int
  | i, .leaf n => ([], i)
  | i, .fork n l r => if beginsB row n.f5 n.f4 then (if bitP row n.f4 = 1 then (i :: (wayT row n.f8 r).1, (wayT row n.f8 r).2) else (i :: (wayT row n.f7 l).1, (wayT row n.f7 l).2)) else ([], i)
def wayO (row : List Int) (i : Int) : Option PT -> List Int × Int
  | none => ([], -1)
  | some t => wayT row i t
end Go.Proofs.YtdeneoknjeegbaaDoor.P
end
