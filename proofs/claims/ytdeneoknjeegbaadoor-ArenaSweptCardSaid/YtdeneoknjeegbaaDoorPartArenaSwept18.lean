/- Lemmas of this claim, part 18. -/
import Derived.Test.YtdeneoknjeegbaaDoorPartArenaSwept17
import Derived.WalkSpells
import Derived.Outline
import Derived.Test.YtdeneoknjeegbaaDoorPartArenaSwept2
section
set_option linter.unusedVariables false
set_option linter.unusedSimpArgs false
namespace Go.Proofs.YtdeneoknjeegbaaDoor.P
open Go.RowKit Go.Proofs.YtdeneoknjeegbaaDoor.Pure Go.Proofs.YtdeneoknjeegbaaDoorW.PrintWords Go.Proofs.YtdeneoknjeegbaaDoorW.PrintLast Go.Proofs.YtdeneoknjeegbaaDoorW.PrintMore
theorem cut_twice : ∀ s : Fin 8, ∀ x : Fin 256, Go.bits .and .u8 (Go.bits .and .u8 (x.val : Int) (255 * 2 ^ s.val % 256)) (255 * 2 ^ s.val % 256) = Go.bits .and .u8 (x.val : Int) (255 * 2 ^ s.val % 256) := by decide +kernel
theorem cutByte_idem (x : Int) (o : Nat) (ho : 0 < o ∧ o < 8) (hx : 0 ≤ x ∧ x ≤ 255) : cutByte (cutByte x (o : Int)) (o : Int) = cutByte x (o : Int) := by
  unfold cutByte
  have := cut_twice ⟨8 - o, by omega⟩ ⟨x.toNat, by omega⟩
  simp only [Int.toNat_of_nonneg hx.1] at this
  rw [show (8 - (o : Int)).toNat = 8 - o by omega]
  exact this
theorem firstB_idem (l : List Int) (hb : BytesOk l) (a : Int) : firstB (firstB l a) a = firstB l a := by
  by_cases h8 : 8 * (l.length : Int) ≤ a
  · have : firstB l a = l := by unfold firstB; rw [if_pos h8]
    rw [this, this]
  by_cases h1 : a < 1
  · have : firstB l a = [] := by unfold firstB; rw [if_neg h8, if_pos h1]
    rw [this]
    unfold firstB
    (repeat' split) <;> first | rfl | omega
  have e1 : firstB l a = firstBits l a.toNat := by unfold firstB; rw [if_neg h8, if_neg h1]
  obtain ⟨n, hn⟩ : ∃ n, n = a.toNat := ⟨_, rfl⟩
  obtain ⟨m, hm⟩ : ∃ m, m = bitBytes n := ⟨_, rfl⟩
  have hm' : m = (n - 1) / 8 + 1 := hm
  have hml : m ≤ l.length := by omega
  rw [e1]
  by_cases h0 : n % 8 = 0
  · have e2 : firstBits l a.toNat = l.take m := by unfold firstBits; rw [← hn, if_pos h0, ← hm]
    rw [e2]
    unfold firstB
    rw [if_pos (by rw [List.length_take]; omega)]
  · obtain ⟨t, ht⟩ : ∃ t, t = l.take m := ⟨_, rfl⟩
    have htl : t.length = m := by rw [ht, List.length_take]; omega
    have e2 : firstBits l a.toNat = t.set (m - 1) (cutByte (t.getD (m - 1) 0) ((n % 8 : Nat) : Int)) := by unfold firstBits; rw [← hn, if_neg h0, ← hm, ← ht]
    have hx : 0 ≤ t.getD (m - 1) 0 ∧ t.getD (m - 1) 0 ≤ 255 := BytesOk.get (show BytesOk t from fun x hx => hb x (by rw [ht] at hx; exact List.mem_of_mem_take hx)) _
    obtain ⟨y, hy⟩ : ∃ y, y = cutByte (t.getD (m - 1) 0) ((n % 8 : Nat) : Int) := ⟨_, rfl⟩
    have hyy : cutByte y ((n % 8 : Nat) : Int) = y := by rw [hy]; exact cutByte_idem _ _ (by omega) hx
    rw [e2, ← hy]
    unfold firstB
    rw [if_neg (by rw [List.length_set, htl]; omega), if_neg h1]
    unfold firstBits
    rw [← hn, if_neg h0, ← hm, List.take_of_length_le (by rw [List.length_set, htl]; omega), List.getD_eq_getElem?_getD, List.getElem?_set_self (by omega)]
    simp only [Option.getD_some]
    rw [hyy, List.set_set]
theorem wordByte_ok (ws : List Int) (i : Nat) : 0 ≤ wordByte ws i ∧ wordByte ws i ≤ 255 := by
  unfold wordByte
  omega
theorem outB_ok (ws : List Int) : ∀ k, BytesOk (outB ws k)
  | 0 => fun x hx => by
    have := List.eq_of_mem_replicate hx
    omega
  | k + 1 => fun x hx => by
    rcases List.mem_or_eq_of_mem_set hx with h | rfl
    · exact outB_ok ws k x h
    · exact wordByte_ok ws k
theorem hashB_ok (size tag : Int) (parts : List (List Int)) : BytesOk (hashB size tag parts) := by
  unfold hashB
  split
  · intro x hx; cases hx
  · intro x hx
    exact outB_ok _ 32 x (List.mem_of_mem_take hx)
theorem hashB_le (size tag : Int) (parts : List (List Int)) : (hashB size tag parts).length ≤ 32 := by
  unfold hashB
  split
  · simp
  · rw [List.length_take, shaSum_length]
    omega
def CsOk (cs : Cs) : Prop := ∀ n, some n ∈ cs → NdLen n ∧ BytesOk n.f9
theorem nodeAt_mem {cs : Cs} {i : Int} {n : Nd} (h : nodeAt cs i = some n) : some n ∈ cs := by
  obtain ⟨k, rfl, hk⟩ := nodeAt_some h
  exact List.mem_of_getElem? hk
theorem CsOk.nil : CsOk [] := fun n h => by cases h
theorem CsOk.at {cs : Cs} (h : CsOk cs) (i : Int) (n : Nd) (hn : nodeAt cs i = some n) : NdLen n ∧ BytesOk n.f9 := h n (nodeAt_mem hn)
theorem CsOk.put {cs : Cs} (h : CsOk cs) {n : Nd} (hn : NdLen n ∧ BytesOk n.f9) : CsOk (putC cs n) := by
  unfold putC
  split
  · intro m hm
    rcases List.mem_or_eq_of_mem_set hm with h1 | h1
    · exact h m h1
    · obtain rfl := Option.some.inj h1
      exact hn
  · intro m hm
    rcases List.mem_append.1 hm with h1 | h1
    · exact h m h1
    · obtain rfl : m = n := by simpa using h1
      exact hn
theorem CsOk.sweep {cs : Cs} (h : CsOk cs) (ms : List Bool) : ∀ j, CsOk (sweepS ms cs j).1
  | 0 => h
  | j + 1 => by
    have := CsOk.sweep h ms j
    simp only [sweepS]
    split
    · intro m hm
      rcases List.mem_or_eq_of_mem_set hm with h1 | h1
      · exact this m h1
      · cases h1
    · exact this
theorem leafNd_ok (size : Int) (l1 l2 : List Int) (since : Int) (h1 : l1.length ≤ 65535) (h2 : l2.length ≤ 65535) : NdLen (leafNd size l1 l2 since) ∧ BytesOk (leafNd size l1 l2 since).f9 :=
  ⟨⟨h1, h2, Nat.zero_le _, Nat.le_trans (hashB_le _ _ _) (by decide)⟩, hashB_ok _ _ _⟩
theorem forkNd_ok (size depth : Int) (pr : List Int) (left right : Int) (nl nr : Nd) (h1 : pr.length ≤ 65535) : NdLen (forkNd size depth pr left right nl nr) ∧ BytesOk (forkNd size depth pr left right nl nr).f9 :=
  ⟨⟨Nat.zero_le _, Nat.zero_le _, Nat.le_trans (firstB_length _ _) h1, Nat.le_trans (hashB_le _ _ _) (by decide)⟩, hashB_ok _ _ _⟩
theorem forkOf_ok {cs : Cs} (size depth : Int) (pr : List Int) (left right : Int) (h : ¬ forkBad cs depth pr left right) : NdLen (forkOf size cs depth pr left right) ∧ BytesOk (forkOf size cs depth pr left right).f9 := by
  unfold forkOf
  have h1 : pr.length ≤ 65535 := by
    rcases Nat.lt_or_ge 65535 pr.length with hl | hl
    · exact absurd (.inr (.inr (.inl hl))) h
    · exact hl
  cases hl : nodeAt cs left with
  | none => exact absurd (.inr (.inr (.inr (.inl hl)))) h
  | some nl =>
    cases hr : nodeAt cs right with
    | none => exact absurd (.inr (.inr (.inr (.inr hr)))) h
    | some nr => exact forkNd_ok _ _ _ _ _ _ _ h1
theorem rforkOf_eq (cs : Cs) (size depth : Int) (pr : List Int) (hb : BytesOk pr) (left right : Int) : rforkOf size cs depth pr left right = forkOf size cs depth pr left right := by
  unfold rforkOf forkOf
  cases hl : nodeAt cs left with
  | none => rfl
  | some nl =>
    cases hr : nodeAt cs right with
    | none => rfl
    | some nr =>
      simp only
      unfold rforkNd forkNd
      rw [firstB_idem pr hb depth]
structure Pr (w : World) (base p q : Nat) (size room : Int) (vc vf vl : Value) (X : Nat → Prop) (cs cs2 : Cs) : Prop where
  a : ArenaM w base p size room vc vf X cs
  r : RefM w base q size room vl X cs2
  apart : ∀ k, OwnS p vc vf k → ¬ OwnQ q vl k
theorem ArenaM.sep {w : World} {base p : Nat} {size room : Int} {vc vf : Value} {X : Nat → Prop} {cs : Cs} (h : ArenaM w base p size room vc vf X cs) (k : Nat) (hk : X k) : k < w.heap.size ∧ ¬ OwnS p vc vf k := by
  obtain ⟨rows, fr, hv⟩ := h.mem
  exact hv.sep k hk
theorem ArenaM.own {w : World} {base p : Nat} {size room : Int} {vc vf : Value} {X : Nat → Prop} {cs : Cs} (h : ArenaM w base p size room vc vf X cs) (k : Nat) (hk : OwnS p vc vf k) : k < w.heap.size := by
  obtain ⟨rows, fr, hv⟩ := h.mem
  exact hv.own_lt k hk
theorem RefM.sep {w : World} {base q : Nat} {size most : Int} {vl : Value} {X : Nat → Prop} {cs : Cs} (h : RefM w base q size most vl X cs) (k : Nat) (hk : X k) : k < w.heap.size ∧ ¬ OwnQ q vl k := by
  obtain ⟨rows, hv⟩ := h.mem
  exact hv.sep k hk
theorem RefM.own {w : World} {base q : Nat} {size most : Int} {vl : Value} {X : Nat → Prop} {cs : Cs} (h : RefM w base q size most vl X cs) (k : Nat) (hk : OwnQ q vl k) : k < w.heap.size := by
  obtain ⟨rows, hv⟩ := h.mem
  exact hv.own_lt k hk
theorem Pr.below {w w1 : World} {base p q : Nat} {size room : Int} {vc vf vl : Value} {X : Nat → Prop} {cs cs2 : Cs} (h : Pr w base p q size room vc vf vl X cs cs2) (hb : Below w.heap.size w w1) : Pr w1 base p q size room vc vf vl X cs cs2 :=
  ⟨h.a.below hb, h.r.below hb, h.apart⟩
structure Step (w w' : World) (base p q : Nat) (size room : Int) (vc vf vl : Value) (X X' : Nat → Prop) (cs cs2 : Cs) : Prop where
  pr : Pr w' base p q size room vc vf vl X' cs cs2
  sub : ∀ k, X k → X' k
  low : Below base w w'
  same : ∀ k, X k → w'.heap[k]? = w.heap[k]?
theorem Pr.arena {w w' : World} {base p q : Nat} {size room : Int} {vc vf vl : Value} {X : Nat → Prop} {cs cs1 cs2 : Cs} (h : Pr w base p q size room vc vf vl X cs cs2) (hp : ArenaP w w' base p size room vc vf X cs1) : ∃ vc' vf' X', Step w w' base p q size room vc' vf' vl X X' cs1 cs2 := by
  obtain ⟨vc', vf', X1, hM, g1, g2, hk, hb⟩ := hp
  have hold : ∀ k, k < w.heap.size → OwnS p vc' vf' k → OwnS p vc vf k := fun k hl ho => (g1 k ho).elim id (fun h1 => absurd h1 (by omega))
  refine ⟨vc', vf', fun k => X k ∨ X1 k, ⟨⟨?_, ?_, ?_⟩, fun k hx => .inl hx, hb, fun k hx => hk.2 k (h.a.sep k hx).1 (h.a.sep k hx).2⟩⟩
  · refine hM.step (Nat.le_refl _) (fun _ _ _ => rfl) (fun k hx => .inr hx) (fun k hx => ?_)
    rcases hx with hx | hx
    · have := h.a.sep k hx
      exact ⟨Nat.lt_of_lt_of_le this.1 hk.1, fun ho => this.2 (hold k this.1 ho)⟩
    · exact hM.sep k hx
  · refine h.r.step hk.1 (fun k hl ho => hk.2 k hl ?_) (fun k hx => .inl hx) (fun k hx => ?_)
    · rcases ho with ho | ho
      · exact fun hs => h.apart k hs ho
      · exact (h.a.sep k ho).2
    · rcases hx with hx | hx
      · have := h.r.sep k hx
        exact ⟨Nat.lt_of_lt_of_le this.1 hk.1, this.2⟩
      · refine ⟨(hM.sep k hx).1, fun ho => ?_⟩
        rcases g2 k hx with h1 | h1
        · exact (h.r.sep k h1).2 ho
        · have := h.r.own k ho
          omega
  · intro k hs hq
    exact h.apart k (hold k (h.r.own k hq) hs) hq
theorem Pr.ref {w w' : World} {base p q : Nat} {size room : Int} {vc vf vl : Value} {X : Nat → Prop} {cs cs1 cs2 : Cs} (h : Pr w base p q size room vc vf vl X cs cs2) (hp : RefP w w' base q size room vl X cs1) : ∃ vl' X', Step w w' base p q size room vc vf vl' X X' cs cs1 := by
  obtain ⟨vl', X1, hM, g1, g2, hk, hb⟩ := hp
  have hold : ∀ k, k < w.heap.size → OwnQ q vl' k → OwnQ q vl k := fun k hl ho => (g1 k ho).elim id (fun h1 => absurd h1 (by omega))
  refine ⟨vl', fun k => X k ∨ X1 k, ⟨⟨?_, ?_, ?_⟩, fun k hx => .inl hx, hb, fun k hx => hk.2 k (h.r.sep k hx).1 (h.r.sep k hx).2⟩⟩
  · refine h.a.step hk.1 (fun k hl ho => hk.2 k hl ?_) (fun k hx => .inl hx) (fun k hx => ?_)
    · rcases ho with ho | ho
      · exact fun hs => h.apart k ho hs
      · exact (h.r.sep k ho).2
    · rcases hx with hx | hx
      · have := h.a.sep k hx
        exact ⟨Nat.lt_of_lt_of_le this.1 hk.1, this.2⟩
      · refine ⟨(hM.sep k hx).1, fun ho => ?_⟩
        rcases g2 k hx with h1 | h1
        · exact (h.a.sep k h1).2 ho
        · have := h.a.own k ho
          omega
  · refine hM.step (Nat.le_refl _) (fun _ _ _ => rfl) (fun k hx => .inr hx) (fun k hx => ?_)
    rcases hx with hx | hx
    · have := h.r.sep k hx
      exact ⟨Nat.lt_of_lt_of_le this.1 hk.1, fun ho => this.2 (hold k this.1 ho)⟩
    · exact hM.sep k hx
  · intro k hs hq
    exact h.apart k hs (hold k (h.a.own k hs) hq)
end Go.Proofs.YtdeneoknjeegbaaDoor.P
end
section
set_option linter.unusedVariables false
set_option linter.unusedSimpArgs false
namespace Go.Proofs.YtdeneoknjeegbaaDoor.P
open Go.RowKit Go.Proofs.YtdeneoknjeegbaaDoorW.PrintWords Go.Proofs.YtdeneoknjeegbaaDoorW.PrintLast Go.Proofs.YtdeneoknjeegbaaDoorW.PrintMore
def newBad (size room : Int) : Prop := size < 1 ∨ 32 < size ∨ room < 1 ∨ 4194304 < room
set_option maxRecDepth 100000 in
theorem rnew_calls (size room : Int) (w : World) (hb : ¬ newBad size room) :
    Calls Tryd.prog 9 #[.int .i64 size, .int .i64 room] w fun e w' => e = .returned (.tuple #[.pointer (some ⟨w.heap.size, 0, none⟩), .int .i64 0]) ∧ QBlk w' w.heap.size size room (.slice none 0 0) ∧ Below w.heap.size w w' := by
  have d1 : decide (size < 1) = false := decide_eq_false (fun h => hb (.inl h))
  have d2 : decide (32 < size) = false := decide_eq_false (fun h => hb (.inr (.inl h)))
  have d3 : decide (room < 1) = false := decide_eq_false (fun h => hb (.inr (.inr (.inl h))))
  have d4 : decide (4194304 < room) = false := decide_eq_false (fun h => hb (.inr (.inr (.inr h))))
  clear hb
  go_enter Tryd.func9, Tryd.ntmps9
  go_wp2_with fail
  go_ret2
  exact ⟨rfl, heap_alloc_new w _, below_alloc (Below.refl _ _) _⟩
theorem Pr.start {w w1 w2 : World} {size room : Int} (hb : ¬ newBad size room) (ha : ABlk w1 w.heap.size size room (.slice none 0 0) (.slice none 0 0)) (h1 : Below w.heap.size w w1) (hr : QBlk w2 w1.heap.size size room (.slice none 0 0)) (h2 : Below w1.heap.size w1 w2) :
    Pr w2 w.heap.size w.heap.size w1.heap.size size room (.slice none 0 0) (.slice none 0 0) (.slice none 0 0) (fun k => k < w.heap.size) [] [] := by
  have hs : 1 ≤ size ∧ size ≤ 32 := ⟨by by_cases h : size < 1; exact absurd (.inl h) hb; omega, by by_cases h : 32 < size; exact absurd (.inr (.inl h)) hb; omega⟩
  have hm : 1 ≤ room ∧ room ≤ 4194304 := ⟨by by_cases h : room < 1; exact absurd (.inr (.inr (.inl h))) hb; omega, by by_cases h : 4194304 < room; exact absurd (.inr (.inr (.inr h))) hb; omega⟩
  have hlt := ha.lt
  have hlt2 := hr.lt
  have hz := h1.size
  refine ⟨⟨⟨[], [], ⟨ha.below h2, Kd.R_nil _ _ _ _ _, Kd.R_nil _ _ _ _ _, ?_, FreeOk.nil, rfl, fun i o r h => by simp at h, fun k hk => ⟨by omega, ?_⟩⟩⟩, Nat.le_refl _, hs, hm, by simp; omega⟩, ⟨⟨[], ⟨hr, Kd.R_nil _ _ _ _ _, rfl, fun i o r h => by simp at h, fun k hk => ⟨by omega, ?_⟩⟩⟩, hz, hs, hm, by simp; omega⟩, ?_⟩
  · intro k hk h0
    exact absurd h0 (by simp)
  · rintro (rfl | h | h)
    · omega
    · simp [Value.ownBlock] at h
    · simp [Value.ownBlock] at h
  · rintro (rfl | h)
    · omega
    · simp [Value.ownBlock] at h
  · rintro k (rfl | h | h)
    · rintro (h | h)
      · omega
      · simp [Value.ownBlock] at h
    · simp [Value.ownBlock] at h
    · simp [Value.ownBlock] at h
end Go.Proofs.YtdeneoknjeegbaaDoor.P
end
section
set_option linter.unusedVariables false
set_option linter.unusedSimpArgs false
namespace Go.Proofs.YtdeneoknjeegbaaDoor.P
open Go.RowKit Go.Proofs.YtdeneoknjeegbaaDoor.Pure Go.Proofs.YtdeneoknjeegbaaDoorW.PrintWords Go.Proofs.YtdeneoknjeegbaaDoorW.PrintLast Go.Proofs.YtdeneoknjeegbaaDoorW.PrintMore
def DoP (w w' : World) (base p q : Nat) (size room : Int) (X : Nat → Prop) : Prop := ∃ vc vf vl X' cs, Step w w' base p q size room vc vf vl X X' cs cs ∧ CsOk cs
def PutOut (c : Prop) (cs : Cs) (room : Int) (n : Nd) (i er : Int) (cs' : Cs) : Prop := (c ∧ i = 0 ∧ er = 1 ∧ cs' = cs) ∨ (¬ c ∧ (usedN cs : Int) = room ∧ i = 0 ∧ er = 4 ∧ cs' = cs) ∨ (¬ c ∧ (usedN cs : Int) ≠ room ∧ i = (lowN cs : Int) ∧ er = 0 ∧ cs' = putC cs n)
theorem PutOut.same {c : Prop} {cs : Cs} {room : Int} {n : Nd} {i er j f : Int} {cs1 cs2 : Cs} (h : PutOut c cs room n i er cs1) (k : PutOut c cs room n j f cs2) : j = i ∧ f = er ∧ cs2 = cs1 := by
  rcases h with ⟨h1, rfl, rfl, rfl⟩ | ⟨h1, h2, rfl, rfl, rfl⟩ | ⟨h1, h2, rfl, rfl, rfl⟩ <;> rcases k with ⟨k1, rfl, rfl, rfl⟩ | ⟨k1, k2, rfl, rfl, rfl⟩ | ⟨k1, k2, rfl, rfl, rfl⟩ <;> first | exact ⟨rfl, rfl, rfl⟩ | exact absurd h1 k1 | exact absurd k1 h1 | exact absurd h2 k2 | exact absurd k2 h2
theorem PutOut.ok {c : Prop} {cs : Cs} {room : Int} {n : Nd} {i er : Int} {cs1 : Cs} (h : PutOut c cs room n i er cs1) (hcs : CsOk cs) (hn : ¬ c → NdLen n ∧ BytesOk n.f9) : CsOk cs1 := by
  rcases h with ⟨h1, rfl, rfl, rfl⟩ | ⟨h1, h2, rfl, rfl, rfl⟩ | ⟨h1, h2, rfl, rfl, rfl⟩
  · exact hcs
  · exact hcs
  · exact hcs.put (hn h1)
theorem PutPost.out {c : Prop} {w w' : World} {base p : Nat} {size room : Int} {vc vf : Value} {X : Nat → Prop} {cs : Cs} {n : Nd} {e : Ending} (h : PutPost c w w' base p size room vc vf X cs n e) : ∃ i er cs', PutOut c cs room n i er cs' ∧ e = .returned (.tuple #[.int .i64 i, .int .i64 er]) ∧ ArenaP w w' base p size room vc vf X cs' := by
  by_cases hc : c
  · exact ⟨0, 1, cs, .inl ⟨hc, rfl, rfl, rfl⟩, h.bad hc⟩
  · by_cases hf : (usedN cs : Int) = room
    · exact ⟨0, 4, cs, .inr (.inl ⟨hc, hf, rfl, rfl, rfl⟩), h.full hc hf⟩
    · exact ⟨_, 0, _, .inr (.inr ⟨hc, hf, rfl, rfl, rfl⟩), h.ok hc hf⟩
theorem RPost.out {c : Prop} {w w' : World} {base q : Nat} {size room : Int} {vl : Value} {X : Nat → Prop} {cs : Cs} {n : Nd} {e : Ending} (h : RPost c w w' base q size room vl X cs n e) : ∃ i er cs', PutOut c cs room n i er cs' ∧ e = .returned (.tuple #[.int .i64 i, .int .i64 er]) ∧ RefP w w' base q size room vl X cs' := by
  by_cases hc : c
  · exact ⟨0, 1, cs, .inl ⟨hc, rfl, rfl, rfl⟩, h.bad hc⟩
  · by_cases hf : (usedN cs : Int) = room
    · exact ⟨0, 4, cs, .inr (.inl ⟨hc, hf, rfl, rfl, rfl⟩), h.full hc hf⟩
    · exact ⟨_, 0, _, .inr (.inr ⟨hc, hf, rfl, rfl, rfl⟩), h.ok hc hf⟩
theorem Pr.box {w w1 : World} {base p q : Nat} {size room : Int} {vc vf vl : Value} {X : Nat → Prop} {cs cs2 : Cs} (h : Pr w base p q size room vc vf vl X cs cs2) (hb : Below w.heap.size w w1) (g : Nat) (hg : w.heap.size ≤ g) (hg1 : g < w1.heap.size) : Step w w1 base p q size room vc vf vl X (fun k => X k ∨ k = g) cs cs2 := by
  refine ⟨⟨?_, ?_, h.apart⟩, fun k hk => .inl hk, hb.mono h.a.base_le.1, fun k hk => hb.block k (h.a.sep k hk).1⟩
  · refine (h.a.below hb).step (Nat.le_refl _) (fun _ _ _ => rfl) (fun k hk => .inl hk) (fun k hk => ?_)
    rcases hk with hk | rfl
    · exact ⟨Nat.lt_of_lt_of_le (h.a.sep k hk).1 hb.size, (h.a.sep k hk).2⟩
    · exact ⟨hg1, fun ho => by have := h.a.own k ho; omega⟩
  · refine (h.r.below hb).step (Nat.le_refl _) (fun _ _ _ => rfl) (fun k hk => .inl hk) (fun k hk => ?_)
    rcases hk with hk | rfl
    · exact ⟨Nat.lt_of_lt_of_le (h.r.sep k hk).1 hb.size, (h.r.sep k hk).2⟩
    · exact ⟨hg1, fun ho => by have := h.r.own k ho; omega⟩
theorem Step.bx {w w' : World} {base p q : Nat} {size room : Int} {vc vf vl : Value} {X X' : Nat → Prop} {cs cs2 : Cs} (h : Step w w' base p q size room vc vf vl X X' cs cs2) {v : Value} {l : List Int} (hb : BX w X v l) : BX w' X' v l :=
  Kd.V_mono (Kd.V_step hb (fun k hk _ => h.same k hk)) h.sub
theorem Step.ints {w w' : World} {base p q : Nat} {size room : Int} {vc vf vl : Value} {X X' : Nat → Prop} {cs cs2 : Cs} (h : Step w w' base p q size room vc vf vl X X' cs cs2) {v : Value} {l : List Int} (hb : Kd.V (Kd.int .i64) 3 w 0 X v l) : Kd.V (Kd.int .i64) 3 w' 0 X' v l :=
  Kd.V_mono (Kd.V_step hb (fun k hk _ => h.same k hk)) h.sub
theorem Step.trans {w w1 w2 : World} {base p q : Nat} {size room : Int} {vc vf vl vc' vf' vl' : Value} {X X1 X2 : Nat → Prop} {cs cs2 cs3 cs4 : Cs} (h : Step w w1 base p q size room vc vf vl X X1 cs cs2) (k : Step w1 w2 base p q size room vc' vf' vl' X1 X2 cs3 cs4) : Step w w2 base p q size room vc' vf' vl' X X2 cs3 cs4 :=
  ⟨k.pr, fun i hi => k.sub i (h.sub i hi), h.low.trans k.low, fun i hi => (k.same i (h.sub i hi)).trans (h.same i hi)⟩
theorem GlobS.step {w w' : World} {base p q : Nat} {size room : Int} {vc vf vl : Value} {X X' : Nat → Prop} {cs cs2 : Cs} (h : Step w w' base p q size room vc vf vl X X' cs cs2) {w0 : World} (hb : base = w0.heap.size) (hg : GlobS w0) (h0 : Below base w0 w) : GlobS w' := by
  subst hb
  exact GlobS.of hg (h0.trans h.low)
theorem Step.below {w w1 w2 : World} {base p q : Nat} {size room : Int} {vc vf vl : Value} {X X' : Nat → Prop} {cs cs2 : Cs} (h : Step w w1 base p q size room vc vf vl X X' cs cs2) (hb : Below w1.heap.size w1 w2) : Step w w2 base p q size room vc vf vl X X' cs cs2 :=
  ⟨h.pr.below hb, h.sub, h.low.trans (hb.mono h.pr.a.base_le.1), fun k hk => (hb.block k (h.pr.a.sep k (h.sub k hk)).1).trans (h.same k hk)⟩
set_option maxHeartbeats 8000000 in
set_option maxRecDepth 100000 in
theorem does_leaf0 {w w0 : World} {base p q : Nat} {size room : Int} {vc vf vl : Value} {X : Nat → Prop} {cs : Cs} (h : Pr w base p q size room vc vf vl X cs cs) (hcs : CsOk cs) (op a b d : Int) (A4 A5 A6 : Option Addr) (c4 c5 c6 : Nat) (x y rs : List Int)
    (bx : BX w X (.slice A4 x.length c4) x) (by_ : BX w X (.slice A5 y.length c5) y) (ox : BytesOk x) (oy : BytesOk y) (hd : d ≤ 9223372036854775807) (hbase : base = w0.heap.size) (hGS : GlobS w0) (hW : Below base w0 w) (ho : wrap64 ((IntKind.u64.wrap op).tmod 4) = 0) :
    Calls Tryd.prog 11 #[.agg #[.int .i64 op, .int .i64 a, .int .i64 b, .int .i64 d, .slice A4 x.length c4, .slice A5 y.length c5, .slice A6 rs.length c6], .pointer (some ⟨p, 0, none⟩), .pointer (some ⟨q, 0, none⟩)] w
      fun e w' => e = .returned (.bool true) ∧ DoP w w' base p q size room X := by
  have H := Aside0.mk h
  have HCS := Aside0.mk hcs
  have HX := Aside0.mk bx
  have HY := Aside0.mk by_
  have HOX := Aside0.mk ox
  have HOY := Aside0.mk oy
  have HD := Aside0.mk hd
  have HG := Aside0.mk (show ∀ W1 vc vf vl (X' : Nat → Prop) cs cs2, Step w W1 base p q size room vc vf vl X X' cs cs2 → GlobS W1 from fun W1 vc vf vl X' cs cs2 hs => GlobS.step hs hbase hGS hW)
  clear h hcs bx by_ ox oy hd hGS hbase hW
  go_enter Tryd.func11, Tryd.ntmps11
  go_wp2_with (((with_reducible refine gate_dst (N := 3) rfl ?_); go_must (refine box_event ?hg (N := 3) ?hd (cs := #[.int .i64 op, .int .i64 a, .int .i64 b, .int .i64 d, .slice A4 x.length c4, .slice A5 y.length c5, .slice A6 rs.length c6]) (t := 34) ?hr ?_; (case hd => rfl); (case hg => rfl); (case hr => first | (go_simp; done) | (go_simp; rfl)); intro g hg w1 hbox hb; have HS1 := Aside0.mk (H.out.box hb g (by omega) (blk_lt hbox)); have HN1 := Aside0.mk hbox; clear hg hb; have k0 := blk_cell hbox 0; simp at k0; have k1 := blk_cell hbox 1; simp at k1; have k4 := blk_cell hbox 4; simp at k4; have k5 := blk_cell hbox 5; simp at k5; clear hbox)))
  refine (leaf_calls HS1.out.pr.a A4 A5 c4 c5 x y a (HS1.out.bx HX.out) (HS1.out.bx HY.out) (HG.out _ _ _ _ _ _ _ HS1.out)).mono ?_
  rintro e w2 hp
  obtain ⟨i, er, cs1, hout, rfl, hA⟩ := hp.out
  obtain ⟨vc2, vf2, X2, hs2⟩ := HS1.out.pr.arena hA
  have HO := Aside0.mk hout
  have HS2 := Aside0.mk (HS1.out.trans hs2)
  have hbox2 := (hs2.same g (.inr rfl)).trans HN1.out
  clear hp hout hA hs2 k0 k1 k4 k5
  have k1 := blk_cell hbox2 1
  simp at k1
  have k4 := blk_cell hbox2 4
  simp at k4
  have k5 := blk_cell hbox2 5
  simp at k5
  clear hbox2
  go_wp2_with fail
  refine (rleaf_calls HS2.out.pr.r A4 A5 c4 c5 x y a (HS2.out.bx HX.out) (HS2.out.bx HY.out) HOX.out HOY.out).mono ?_
  rintro e w3 hp
  obtain ⟨j, f, cs3, hout, rfl, hA⟩ := hp.out
  obtain ⟨rfl, rfl, rfl⟩ := HO.out.same hout
  obtain ⟨vl3, X3, hs3⟩ := HS2.out.pr.ref hA
  have HS3 := Aside0.mk (HS2.out.trans hs3)
  clear hp hout hA hs3 k1 k4 k5
  go_wp2_with fail
  go_ret
  exact ⟨by simp, _, _, _, _, _, HS3.out, HO.out.ok HCS.out (fun hc => leafNd_ok _ _ _ _ (by omega) (by omega))⟩
set_option maxHeartbeats 8000000 in
set_option maxRecDepth 100000 in
theorem does_leaf1 {w w0 : World} {base p q : Nat} {size room : Int} {vc vf vl : Value} {X : Nat → Prop} {cs : Cs} (h : Pr w base p q size room vc vf vl X cs cs) (hcs : CsOk cs) (op a b d : Int) (A4 A5 A6 : Option Addr) (c4 c5 c6 : Nat) (x y rs : List Int)
    (bx : BX w X (.slice A4 x.length c4) x) (by_ : BX w X (.slice A5 y.length c5) y) (ox : BytesOk x) (oy : BytesOk y) (hd : d ≤ 9223372036854775807) (hbase : base = w0.heap.size) (hGS : GlobS w0) (hW : Below base w0 w) (ho : wrap64 ((IntKind.u64.wrap op).tmod 4) = 1) :
    Calls Tryd.prog 11 #[.agg #[.int .i64 op, .int .i64 a, .int .i64 b, .int .i64 d, .slice A4 x.length c4, .slice A5 y.length c5, .slice A6 rs.length c6], .pointer (some ⟨p, 0, none⟩), .pointer (some ⟨q, 0, none⟩)] w
      fun e w' => e = .returned (.bool true) ∧ DoP w w' base p q size room X := by
  have H := Aside0.mk h
  have HCS := Aside0.mk hcs
  have HX := Aside0.mk bx
  have HY := Aside0.mk by_
  have HOX := Aside0.mk ox
  have HOY := Aside0.mk oy
  have HD := Aside0.mk hd
  have HG := Aside0.mk (show ∀ W1 vc vf vl (X' : Nat → Prop) cs cs2, Step w W1 base p q size room vc vf vl X X' cs cs2 → GlobS W1 from fun W1 vc vf vl X' cs cs2 hs => GlobS.step hs hbase hGS hW)
  clear h hcs bx by_ ox oy hd hGS hbase hW
  go_enter Tryd.func11, Tryd.ntmps11
  go_wp2_with (((with_reducible refine gate_dst (N := 3) rfl ?_); go_must (refine box_event ?hg (N := 3) ?hd (cs := #[.int .i64 op, .int .i64 a, .int .i64 b, .int .i64 d, .slice A4 x.length c4, .slice A5 y.length c5, .slice A6 rs.length c6]) (t := 34) ?hr ?_; (case hd => rfl); (case hg => rfl); (case hr => first | (go_simp; done) | (go_simp; rfl)); intro g hg w1 hbox hb; have HS1 := Aside0.mk (H.out.box hb g (by omega) (blk_lt hbox)); have HN1 := Aside0.mk hbox; clear hg hb; have k0 := blk_cell hbox 0; simp at k0; have k1 := blk_cell hbox 1; simp at k1; have k4 := blk_cell hbox 4; simp at k4; have k5 := blk_cell hbox 5; simp at k5; clear hbox)))
  refine (leaf_calls HS1.out.pr.a A4 A5 c4 c5 x y a (HS1.out.bx HX.out) (HS1.out.bx HY.out) (HG.out _ _ _ _ _ _ _ HS1.out)).mono ?_
  rintro e w2 hp
  obtain ⟨i, er, cs1, hout, rfl, hA⟩ := hp.out
  obtain ⟨vc2, vf2, X2, hs2⟩ := HS1.out.pr.arena hA
  have HO := Aside0.mk hout
  have HS2 := Aside0.mk (HS1.out.trans hs2)
  have hbox2 := (hs2.same g (.inr rfl)).trans HN1.out
  clear hp hout hA hs2 k0 k1 k4 k5
  have k1 := blk_cell hbox2 1
  simp at k1
  have k4 := blk_cell hbox2 4
  simp at k4
  have k5 := blk_cell hbox2 5
  simp at k5
  clear hbox2
  go_wp2_with fail
  refine (rleaf_calls HS2.out.pr.r A4 A5 c4 c5 x y a (HS2.out.bx HX.out) (HS2.out.bx HY.out) HOX.out HOY.out).mono ?_
  rintro e w3 hp
  obtain ⟨j, f, cs3, hout, rfl, hA⟩ := hp.out
  obtain ⟨rfl, rfl, rfl⟩ := HO.out.same hout
  obtain ⟨vl3, X3, hs3⟩ := HS2.out.pr.ref hA
  have HS3 := Aside0.mk (HS2.out.trans hs3)
  clear hp hout hA hs3 k1 k4 k5
  go_wp2_with fail
  go_ret
  exact ⟨by simp, _, _, _, _, _, HS3.out, HO.out.ok HCS.out (fun hc => leafNd_ok _ _ _ _ (by omega) (by omega))⟩
set_option maxHeartbeats 8000000 in
set_option maxRecDepth 100000 in
theorem does_fork {w w0 : World} {base p q : Nat} {size room : Int} {vc vf vl : Value} {X : Nat → Prop} {cs : Cs} (h : Pr w base p q size room vc vf vl X cs cs) (hcs : CsOk cs) (op a b d : Int) (A4 A5 A6 : Option Addr) (c4 c5 c6 : Nat) (x y rs : List Int)
    (bx : BX w X (.slice A4 x.length c4) x) (by_ : BX w X (.slice A5 y.length c5) y) (ox : BytesOk x) (oy : BytesOk y) (hd : d ≤ 9223372036854775807) (hbase : base = w0.heap.size) (hGS : GlobS w0) (hW : Below base w0 w) (ho : wrap64 ((IntKind.u64.wrap op).tmod 4) = 2) :
    Calls Tryd.prog 11 #[.agg #[.int .i64 op, .int .i64 a, .int .i64 b, .int .i64 d, .slice A4 x.length c4, .slice A5 y.length c5, .slice A6 rs.length c6], .pointer (some ⟨p, 0, none⟩), .pointer (some ⟨q, 0, none⟩)] w
      fun e w' => e = .returned (.bool true) ∧ DoP w w' base p q size room X := by
  have H := Aside0.mk h
  have HCS := Aside0.mk hcs
  have HX := Aside0.mk bx
  have HY := Aside0.mk by_
  have HOX := Aside0.mk ox
  have HOY := Aside0.mk oy
  have HD := Aside0.mk hd
  have HG := Aside0.mk (show ∀ W1 vc vf vl (X' : Nat → Prop) cs cs2, Step w W1 base p q size room vc vf vl X X' cs cs2 → GlobS W1 from fun W1 vc vf vl X' cs cs2 hs => GlobS.step hs hbase hGS hW)
  clear h hcs bx by_ ox oy hd hGS hbase hW
  go_enter Tryd.func11, Tryd.ntmps11
  go_wp2_with (((with_reducible refine gate_dst (N := 3) rfl ?_); go_must (refine box_event ?hg (N := 3) ?hd (cs := #[.int .i64 op, .int .i64 a, .int .i64 b, .int .i64 d, .slice A4 x.length c4, .slice A5 y.length c5, .slice A6 rs.length c6]) (t := 34) ?hr ?_; (case hd => rfl); (case hg => rfl); (case hr => first | (go_simp; done) | (go_simp; rfl)); intro g hg w1 hbox hb; have HS1 := Aside0.mk (H.out.box hb g (by omega) (blk_lt hbox)); have HN1 := Aside0.mk hbox; clear hg hb; have k0 := blk_cell hbox 0; simp at k0; have k1 := blk_cell hbox 1; simp at k1; have k2 := blk_cell hbox 2; simp at k2; have k3 := blk_cell hbox 3; simp at k3; have k4 := blk_cell hbox 4; simp at k4; clear hbox)))
  refine (fork_calls HS1.out.pr.a A4 c4 x d a b (HS1.out.bx HX.out) (HG.out _ _ _ _ _ _ _ HS1.out)).mono ?_
  rintro e w2 hp
  obtain ⟨i, er, cs1, hout, rfl, hA⟩ := hp.out
  obtain ⟨vc2, vf2, X2, hs2⟩ := HS1.out.pr.arena hA
  have HO := Aside0.mk hout
  have HS2 := Aside0.mk (HS1.out.trans hs2)
  have hbox2 := (hs2.same g (.inr rfl)).trans HN1.out
  clear hp hout hA hs2 k0 k1 k2 k3 k4
  have k1 := blk_cell hbox2 1
  simp at k1
  have k2 := blk_cell hbox2 2
  simp at k2
  have k3 := blk_cell hbox2 3
  simp at k3
  have k4 := blk_cell hbox2 4
  simp at k4
  clear hbox2
  go_wp2_with fail
  refine (rfork_calls HS2.out.pr.r A4 c4 x d a b HD.out (HS2.out.bx HX.out) HOX.out (fun i n hn => HCS.out.at i n hn)).mono ?_
  rintro e w3 hp
  rw [rforkOf_eq _ _ _ _ HOX.out] at hp
  obtain ⟨j, f, cs3, hout, rfl, hA⟩ := hp.out
  obtain ⟨rfl, rfl, rfl⟩ := HO.out.same hout
  obtain ⟨vl3, X3, hs3⟩ := HS2.out.pr.ref hA
  have HS3 := Aside0.mk (HS2.out.trans hs3)
  clear hp hout hA hs3 k1 k2 k3 k4
  go_wp2_with fail
  go_ret
  exact ⟨by simp, _, _, _, _, _, HS3.out, HO.out.ok HCS.out (fun hc => forkOf_ok _ _ _ _ _ hc)⟩
end Go.Proofs.YtdeneoknjeegbaaDoor.P
end
section
set_option linter.unusedVariables false
set_option linter.unusedSimpArgs false
namespace Go.Proofs.YtdeneoknjeegbaaDoor.P
open Go.RowKit Go.Proofs.YtdeneoknjeegbaaDoorW.PrintWords Go.Proofs.YtdeneoknjeegbaaDoorW.PrintLast Go.Proofs.YtdeneoknjeegbaaDoorW.PrintMore
set_option maxHeartbeats 8000000 in
set_option maxRecDepth 100000 in
theorem same_eq {w : World} (x0 : Bool) (l1 l2 l5 l9 : List Int) (x3 x4 x6 x7 x8 : Int) (A1 A2 A5 A9 B1 B2 B5 B9 : Option Addr) (c1 c2 c5 c9 d1 d2 d5 d9 : Nat) (hA1 : Kd.C (Kd.int .u8) w A1 l1.length l1) (hA2 : Kd.C (Kd.int .u8) w A2 l2.length l2) (hA5 : Kd.C (Kd.int .u8) w A5 l5.length l5) (hA9 : Kd.C (Kd.int .u8) w A9 l9.length l9) (hB1 : Kd.C (Kd.int .u8) w B1 l1.length l1) (hB2 : Kd.C (Kd.int .u8) w B2 l2.length l2) (hB5 : Kd.C (Kd.int .u8) w B5 l5.length l5) (hB9 : Kd.C (Kd.int .u8) w B9 l9.length l9) :
    Calls Tryd.prog 18 #[.agg #[.bool x0, .slice A1 l1.length c1, .slice A2 l2.length c2, .int .i64 x3, .int .i64 x4, .slice A5 l5.length c5, .int .i64 x6, .int .i64 x7, .int .i64 x8, .slice A9 l9.length c9], .agg #[.bool x0, .slice B1 l1.length d1, .slice B2 l2.length d2, .int .i64 x3, .int .i64 x4, .slice B5 l5.length d5, .int .i64 x6, .int .i64 x7, .int .i64 x8, .slice B9 l9.length d9]] w fun e w' => e = .returned (.bool true) ∧ Below w.heap.size w w' := by
  have RA1 := Aside0.mk hA1
  have RA2 := Aside0.mk hA2
  have RA5 := Aside0.mk hA5
  have RA9 := Aside0.mk hA9
  have RB1 := Aside0.mk hB1
  have RB2 := Aside0.mk hB2
  have RB5 := Aside0.mk hB5
  have RB9 := Aside0.mk hB9
  clear hA1 hA2 hA5 hA9 hB1 hB2 hB5 hB9
  go_enter Tryd.func18, Tryd.ntmps18
  go_wp2_with (first | ((with_reducible refine gate_dst (N := 2) rfl ?_); go_must (refine box_event ?hg (N := 2) ?hd (cs := #[.bool x0, .slice A1 l1.length c1, .slice A2 l2.length c2, .int .i64 x3, .int .i64 x4, .slice A5 l5.length c5, .int .i64 x6, .int .i64 x7, .int .i64 x8, .slice A9 l9.length c9]) (t := 39) ?hr ?_; (case hd => rfl); (case hg => rfl); (case hr => first | (go_simp; done) | (go_simp; rfl)); intro g1 hg w1 hbox hb; have HW1 := Aside0.mk hb; have HN1 := Aside0.mk hbox; clear hg hb hbox)) | ((with_reducible refine gate_dst (N := 3) rfl ?_); go_must (refine box_event ?hg (N := 3) ?hd (cs := #[.bool x0, .slice B1 l1.length d1, .slice B2 l2.length d2, .int .i64 x3, .int .i64 x4, .slice B5 l5.length d5, .int .i64 x6, .int .i64 x7, .int .i64 x8, .slice B9 l9.length d9]) (t := 39) ?hr ?_; (case hd => rfl); (case hg => rfl); (case hr => first | (go_simp; done) | (go_simp; rfl)); intro g2 hg w2 hbox hb; have HW2 := Aside0.mk (below_step HW1.out hb); have HM1 := Aside0.mk (blk_below HN1.out hb); have HM2 := Aside0.mk hbox; clear hg hb hbox HN1; have k10 := blk_cell HM1.out 0; simp at k10; have f10 := blk_frozen HM1.out 0; have k11 := blk_cell HM1.out 1; simp at k11; have f11 := blk_frozen HM1.out 1; have k12 := blk_cell HM1.out 2; simp at k12; have f12 := blk_frozen HM1.out 2; have k13 := blk_cell HM1.out 3; simp at k13; have f13 := blk_frozen HM1.out 3; have k14 := blk_cell HM1.out 4; simp at k14; have f14 := blk_frozen HM1.out 4; have k15 := blk_cell HM1.out 5; simp at k15; have f15 := blk_frozen HM1.out 5; have k16 := blk_cell HM1.out 6; simp at k16; have f16 := blk_frozen HM1.out 6; have k17 := blk_cell HM1.out 7; simp at k17; have f17 := blk_frozen HM1.out 7; have k18 := blk_cell HM1.out 8; simp at k18; have f18 := blk_frozen HM1.out 8; have k19 := blk_cell HM1.out 9; simp at k19; have f19 := blk_frozen HM1.out 9; have k20 := blk_cell HM2.out 0; simp at k20; have f20 := blk_frozen HM2.out 0; have k21 := blk_cell HM2.out 1; simp at k21; have f21 := blk_frozen HM2.out 1; have k22 := blk_cell HM2.out 2; simp at k22; have f22 := blk_frozen HM2.out 2; have k23 := blk_cell HM2.out 3; simp at k23; have f23 := blk_frozen HM2.out 3; have k24 := blk_cell HM2.out 4; simp at k24; have f24 := blk_frozen HM2.out 4; have k25 := blk_cell HM2.out 5; simp at k25; have f25 := blk_frozen HM2.out 5; have k26 := blk_cell HM2.out 6; simp at k26; have f26 := blk_frozen HM2.out 6; have k27 := blk_cell HM2.out 7; simp at k27; have f27 := blk_frozen HM2.out 7; have k28 := blk_cell HM2.out 8; simp at k28; have f28 := blk_frozen HM2.out 8; have k29 := blk_cell HM2.out 9; simp at k29; have f29 := blk_frozen HM2.out 9; have vA1 := Kd.C_string (P := Tryd.prog) (A := A1) (c := c1) Tryd.underlying31 Tryd.underlying5 Tryd.underlying9 (Kd.C_below RA1.out HW2.out); have vA2 := Kd.C_string (P := Tryd.prog) (A := A2) (c := c2) Tryd.underlying31 Tryd.underlying5 Tryd.underlying9 (Kd.C_below RA2.out HW2.out); have vA5 := Kd.C_string (P := Tryd.prog) (A := A5) (c := c5) Tryd.underlying31 Tryd.underlying5 Tryd.underlying9 (Kd.C_below RA5.out HW2.out); have vA9 := Kd.C_string (P := Tryd.prog) (A := A9) (c := c9) Tryd.underlying31 Tryd.underlying5 Tryd.underlying9 (Kd.C_below RA9.out HW2.out); have vB1 := Kd.C_string (P := Tryd.prog) (A := B1) (c := d1) Tryd.underlying31 Tryd.underlying5 Tryd.underlying9 (Kd.C_below RB1.out HW2.out); have vB2 := Kd.C_string (P := Tryd.prog) (A := B2) (c := d2) Tryd.underlying31 Tryd.underlying5 Tryd.underlying9 (Kd.C_below RB2.out HW2.out); have vB5 := Kd.C_string (P := Tryd.prog) (A := B5) (c := d5) Tryd.underlying31 Tryd.underlying5 Tryd.underlying9 (Kd.C_below RB5.out HW2.out); have vB9 := Kd.C_string (P := Tryd.prog) (A := B9) (c := d9) Tryd.underlying31 Tryd.underlying5 Tryd.underlying9 (Kd.C_below RB9.out HW2.out))))
  go_ret
  exact ⟨rfl, HW2.out⟩
end Go.Proofs.YtdeneoknjeegbaaDoor.P
end
section
namespace Go.Proofs.YtdeneoknjeegbaaDoor.P
open Go.RowKit Go.Proofs.YtdeneoknjeegbaaDoorW.PrintWords Go.Proofs.YtdeneoknjeegbaaDoorW.PrintLast Go.Proofs.YtdeneoknjeegbaaDoorW.PrintMore
attribute [local go_sem] max2_int min2_int max_two min_two max_three min_three max_four min_four
set_option linter.unusedVariables false
set_option linter.unusedSimpArgs false
def bytes_Equal.f (l0 : List Int) (l1 : List Int) : Option (Bool) := some ((strOfNums l0).toList == (strOfNums l1).toList)
end Go.Proofs.YtdeneoknjeegbaaDoor.P
end
section
set_option linter.unusedVariables false
set_option linter.unusedSimpArgs false
namespace Go.Proofs.YtdeneoknjeegbaaDoor.P
open Go.RowKit Go.Proofs.YtdeneoknjeegbaaDoor.Pure Go.Proofs.YtdeneoknjeegbaaDoorW.PrintWords Go.Proofs.YtdeneoknjeegbaaDoorW.PrintLast Go.Proofs.YtdeneoknjeegbaaDoorW.PrintMore
theorem op4 (op : Int) : wrap64 ((IntKind.u64.wrap op).tmod 4) = 0 ∨ wrap64 ((IntKind.u64.wrap op).tmod 4) = 1 ∨ wrap64 ((IntKind.u64.wrap op).tmod 4) = 2 ∨ wrap64 ((IntKind.u64.wrap op).tmod 4) = 3 := by
  have h0 : 0 ≤ IntKind.u64.wrap op := by rw [IntKind.wrap_u64]; omega
  rw [Int.tmod_eq_emod_of_nonneg h0]
  obtain ⟨x, hx⟩ : ∃ x, x = IntKind.u64.wrap op % 4 := ⟨_, rfl⟩
  rw [← hx, wrap64_id _ (by omega)]
  omega
theorem does_callsN {w w0 : World} {base p q : Nat} {size room : Int} {vc vf vl : Value} {X : Nat → Prop} {cs : Cs} (h : Pr w base p q size room vc vf vl X cs cs) (hcs : CsOk cs) (op a b d : Int) (A4 A5 A6 : Option Addr) (c4 c5 c6 : Nat) (x y rs : List Int)
    (bx : BX w X (.slice A4 x.length c4) x) (by_ : BX w X (.slice A5 y.length c5) y) (ox : BytesOk x) (oy : BytesOk y) (hd : d ≤ 9223372036854775807) (hbase : base = w0.heap.size) (hGS : GlobS w0) (hW : Below base w0 w) (ho : wrap64 ((IntKind.u64.wrap op).tmod 4) ≠ 3) :
    Calls Tryd.prog 11 #[.agg #[.int .i64 op, .int .i64 a, .int .i64 b, .int .i64 d, .slice A4 x.length c4, .slice A5 y.length c5, .slice A6 rs.length c6], .pointer (some ⟨p, 0, none⟩), .pointer (some ⟨q, 0, none⟩)] w
      fun e w' => e = .returned (.bool true) ∧ DoP w w' base p q size room X := by
  rcases op4 op with h3 | h3 | h3 | h3
  · exact does_leaf0 h hcs op a b d A4 A5 A6 c4 c5 c6 x y rs bx by_ ox oy hd hbase hGS hW h3
  · exact does_leaf1 h hcs op a b d A4 A5 A6 c4 c5 c6 x y rs bx by_ ox oy hd hbase hGS hW h3
  · exact does_fork h hcs op a b d A4 A5 A6 c4 c5 c6 x y rs bx by_ ox oy hd hbase hGS hW h3
  · exact absurd h3 ho
theorem NodeV.all {w' : World} {Y : Nat → Prop} {o : Option Nd} {e : Ending} (h : NodeV w' Y o e) : ∃ n b, n = o.getD z39 ∧ b = o.isSome ∧ ∃ (A1 A2 A5 A9 : Option Addr) (c1 c2 c5 c9 : Nat), e = .returned (.tuple #[.agg #[.bool n.f0, .slice A1 n.f1.length c1, .slice A2 n.f2.length c2, .int .i64 n.f3, .int .i64 n.f4, .slice A5 n.f5.length c5, .int .i64 n.f6, .int .i64 n.f7, .int .i64 n.f8, .slice A9 n.f9.length c9], .bool b]) ∧ BX w' Y (.slice A1 n.f1.length c1) n.f1 ∧ BX w' Y (.slice A2 n.f2.length c2) n.f2 ∧ BX w' Y (.slice A5 n.f5.length c5) n.f5 ∧ BX w' Y (.slice A9 n.f9.length c9) n.f9 := by
  cases o with
  | none => exact ⟨_, _, rfl, rfl, none, none, none, none, 0, 0, 0, 0, h, Kd.V_nil _ _ _ _ _, Kd.V_nil _ _ _ _ _, Kd.V_nil _ _ _ _ _, Kd.V_nil _ _ _ _ _⟩
  | some n => exact ⟨n, true, rfl, rfl, h⟩
end Go.Proofs.YtdeneoknjeegbaaDoor.P
end
section
set_option linter.unusedVariables false
set_option linter.unusedSimpArgs false
namespace Go.Proofs.YtdeneoknjeegbaaDoor.P
open Go.RowKit Go.Proofs.YtdeneoknjeegbaaDoor.Pure Go.Proofs.YtdeneoknjeegbaaDoorW.PrintWords Go.Proofs.YtdeneoknjeegbaaDoorW.PrintLast Go.Proofs.YtdeneoknjeegbaaDoorW.PrintMore
structure DoS where
  a : Int
  b : Int
  c : Int
  d : Int
  x : List Int
  y : List Int
  r : List Int
def zDo : DoS := ⟨0, 0, 0, 0, [], [], []⟩
def kDo : Kd DoS := Kd.iso (Kd.pair (Kd.int .i64) (Kd.pair (Kd.int .i64) (Kd.pair (Kd.int .i64) (Kd.pair (Kd.int .i64) (Kd.pair (Kd.slice 5 (Kd.int .u8)) (Kd.pair (Kd.slice 5 (Kd.int .u8)) (Kd.slice 3 (Kd.int .i64)))))))) (fun x : DoS => (x.a, x.b, x.c, x.d, x.x, x.y, x.r))
theorem kDo_open {w : World} {x : DoS} {cs : List Value} (h : kDo.K w x cs) : ∃ A4 c4 A5 c5 A6 c6, cs = [.int .i64 x.a, .int .i64 x.b, .int .i64 x.c, .int .i64 x.d, .slice A4 x.x.length c4, .slice A5 x.y.length c5, .slice A6 x.r.length c6] ∧ x.x.length ≤ c4 ∧ (Kd.int .u8).C w A4 x.x.length x.x ∧ x.y.length ≤ c5 ∧ (Kd.int .u8).C w A5 x.y.length x.y ∧ x.r.length ≤ c6 ∧ (Kd.int .i64).C w A6 x.r.length x.r := by
  obtain ⟨_, _, rfl, rfl, ⟨_, _, rfl, rfl, ⟨_, _, rfl, rfl, ⟨_, _, rfl, rfl, ⟨_, _, rfl, ⟨A4, c4, rfl, l4, g4⟩, ⟨_, _, rfl, ⟨A5, c5, rfl, l5, g5⟩, ⟨A6, c6, rfl, l6, g6⟩⟩⟩⟩⟩⟩⟩ := h
  exact ⟨A4, c4, A5, c5, A6, c6, rfl, l4, g4, l5, g5, l6, g6⟩
def rdDo (xs : List DoS) (i : Int) : DoS := xs.getD i.toNat zDo
theorem at_Do {w : World} {A : Option Addr} {n : Nat} {xs : List DoS} (h : Kd.C kDo w A n xs) (i : Int) (h0 : 0 ≤ i) (h1 : i < n) : ∃ ad A4 c4 A5 c5 A6 c6, A = some ad ∧ w.cell? (ad.add (i.toNat * 7)) = some (.int .i64 (rdDo xs i).a) ∧ w.cell? ⟨(ad.add (i.toNat * 7)).block, (ad.add (i.toNat * 7)).off + 1, none⟩ = some (.int .i64 (rdDo xs i).b) ∧ w.cell? ⟨(ad.add (i.toNat * 7)).block, (ad.add (i.toNat * 7)).off + 2, none⟩ = some (.int .i64 (rdDo xs i).c) ∧ w.cell? ⟨(ad.add (i.toNat * 7)).block, (ad.add (i.toNat * 7)).off + 3, none⟩ = some (.int .i64 (rdDo xs i).d) ∧ w.cell? ⟨(ad.add (i.toNat * 7)).block, (ad.add (i.toNat * 7)).off + 4, none⟩ = some (.slice A4 (rdDo xs i).x.length c4) ∧ w.cell? ⟨(ad.add (i.toNat * 7)).block, (ad.add (i.toNat * 7)).off + 5, none⟩ = some (.slice A5 (rdDo xs i).y.length c5) ∧ w.cell? ⟨(ad.add (i.toNat * 7)).block, (ad.add (i.toNat * 7)).off + 6, none⟩ = some (.slice A6 (rdDo xs i).r.length c6) ∧ (rdDo xs i).x.length ≤ c4 ∧ (Kd.int .u8).C w A4 (rdDo xs i).x.length (rdDo xs i).x ∧ (rdDo xs i).y.length ≤ c5 ∧ (Kd.int .u8).C w A5 (rdDo xs i).y.length (rdDo xs i).y ∧ (rdDo xs i).r.length ≤ c6 ∧ (Kd.int .i64).C w A6 (rdDo xs i).r.length (rdDo xs i).r := by
  obtain ⟨ad, c, e, _, hK, hc0⟩ := Kd.C_get h zDo i h0 h1
  have hc : ∀ j u, c[j]? = some u → w.cell? (ad.add (i.toNat * 7 + j)) = some u := hc0
  obtain ⟨A4, c4, A5, c5, A6, c6, rfl, l4, g4, l5, g5, l6, g6⟩ := kDo_open hK
  exact ⟨ad, A4, c4, A5, c5, A6, c6, e, hc 0 _ rfl, by rw [← add_field _ _ 1 (by omega)]; exact hc 1 _ rfl, by rw [← add_field _ _ 2 (by omega)]; exact hc 2 _ rfl, by rw [← add_field _ _ 3 (by omega)]; exact hc 3 _ rfl, by rw [← add_field _ _ 4 (by omega)]; exact hc 4 _ rfl, by rw [← add_field _ _ 5 (by omega)]; exact hc 5 _ rfl, by rw [← add_field _ _ 6 (by omega)]; exact hc 6 _ rfl, l4, g4, l5, g5, l6, g6⟩
theorem V_of_C {k : IntKind} (e : Nat) {w : World} {A : Option Addr} {c : Nat} {l : List Int} (h : Kd.C (Kd.int k) w A l.length l) (hc : l.length ≤ c) : Kd.V (Kd.int k) e w 0 (fun b => b < w.heap.size) (.slice A l.length c) l := Kd.V_mk hc (fun W' hW => by
  have hsz : w.heap.size ≤ W'.heap.size := by
    rcases Nat.eq_zero_or_pos w.heap.size with h0 | h0
    · omega
    · have := heap_lt (hW (w.heap.size - 1) (by omega) (by omega)) (by omega)
      omega
  have hb : Below w.heap.size w { W' with os := w.os, tape := w.tape, output := w.output } := ⟨rfl, rfl, rfl, hsz, fun k hk => hW k hk hk⟩
  have hx := Kd.C_below h hb
  exact hx)
theorem sub_step {k n : Nat} (h : k < n) : n - (k + 1) < n - k := by omega
theorem step_meas {k n : Nat} (h : k < n) (hw : wrap64 ((k : Int) + 1) = ((k + 1 : Nat) : Int)) : n - (intOf (.int .i64 (wrap64 ((k : Int) + 1)))).toNat < n - (intOf (.int .i64 (k : Int))).toNat := by
  rw [hw]
  simp only [intOf, Int.toNat_natCast]
  exact sub_step h
def DoOk (d : DoS) : Prop := BytesOk d.x ∧ BytesOk d.y ∧ d.d ≤ 9223372036854775807
theorem rdDo_mem {xs : List DoS} {i : Int} (h1 : i.toNat < xs.length) : rdDo xs i ∈ xs := by
  unfold rdDo
  rw [List.getD_eq_getElem?_getD, List.getElem?_eq_getElem h1]
  exact List.getElem_mem h1
end Go.Proofs.YtdeneoknjeegbaaDoor.P
end
section
set_option linter.unusedVariables false
set_option linter.unusedSimpArgs false
namespace Go.Proofs.YtdeneoknjeegbaaDoor.P
open Go.RowKit Go.Proofs.YtdeneoknjeegbaaDoor.Pure
structure Bfs (cs : Cs) (root : Int) (kept todo : List Int) : Prop where
  dup : kept.Nodup
  sound : ∀ c, c ∈ kept → Reach cs [root] c
  kids : ∀ (c d : Int) (n : Nd), c ∈ kept → nodeAt cs c = some n → n.f0 = false → (d = n.f7 ∨ d = n.f8) → (nodeAt cs d).isSome = true → d ∈ kept ∨ d ∈ todo
  first : (nodeAt cs root).isSome = true → root ∈ kept ∨ root ∈ todo
  todo : ∀ t, t ∈ todo → (nodeAt cs t).isSome = true → Reach cs [root] t
theorem Reach.some {cs : Cs} {roots : List Int} {c : Int} (h : Reach cs roots c) : (nodeAt cs c).isSome = true := by
  cases h with
  | root _ h => exact h
  | kid _ _ _ _ h => exact h
theorem Bfs.start (cs : Cs) (root : Int) : Bfs cs root [] [root] :=
  ⟨List.nodup_nil, fun c h => (by cases h), fun c d n h => (by cases h), fun _ => .inr (by simp), fun t ht hs => by
    obtain rfl : t = root := by simpa using ht
    exact .root (by simp) hs⟩
theorem Bfs.skip {cs : Cs} {root t : Int} {kept rest : List Int} (h : Bfs cs root kept (t :: rest)) (ht : nodeAt cs t = none ∨ t ∈ kept) : Bfs cs root kept rest := by
  have hx : ∀ d, (nodeAt cs d).isSome = true → d ∈ kept ∨ d ∈ t :: rest → d ∈ kept ∨ d ∈ rest := fun d hs hd => by
    rcases hd with hd | hd
    · exact .inl hd
    · rcases List.mem_cons.1 hd with rfl | hd
      · rcases ht with ht | ht
        · rw [ht] at hs; cases hs
        · exact .inl ht
      · exact .inr hd
  exact ⟨h.dup, h.sound, fun c d n hc hn hf hd hs => hx d hs (h.kids c d n hc hn hf hd hs), fun hs => hx root hs (h.first hs), fun u hu hs => h.todo u (List.mem_cons_of_mem _ hu) hs⟩
theorem Bfs.take {cs : Cs} {root t : Int} {kept rest more : List Int} {n : Nd} (h : Bfs cs root kept (t :: rest)) (hn : nodeAt cs t = some n) (hk : t ∉ kept) (hm : more = if n.f0 then [] else [n.f7, n.f8]) : Bfs cs root (kept ++ [t]) (rest ++ more) := by
  have hs : (nodeAt cs t).isSome = true := by rw [hn]; rfl
  have hr := h.todo t (by simp) hs
  have hx : ∀ d, d ∈ kept ∨ d ∈ t :: rest → d ∈ kept ++ [t] ∨ d ∈ rest ++ more := fun d hd => by
    rcases hd with hd | hd
    · exact .inl (List.mem_append_left _ hd)
    · rcases List.mem_cons.1 hd with rfl | hd
      · exact .inl (List.mem_append_right _ (by simp))
      · exact .inr (List.mem_append_left _ hd)
  refine ⟨?_, fun c hc => ?_, fun c d m hc hcn hf hd hds => ?_, fun hs => hx root (h.first hs), fun u hu hus => ?_⟩
  · rw [List.nodup_append]
    refine ⟨h.dup, by simp, fun a ha b hb => ?_⟩
    obtain rfl : b = t := by simpa using hb
    rintro rfl
    exact hk ha
  · rcases List.mem_append.1 hc with hc | hc
    · exact h.sound c hc
    · obtain rfl : c = t := by simpa using hc
      exact hr
  · rcases List.mem_append.1 hc with hc | hc
    · exact hx d (h.kids c d m hc hcn hf hd hds)
    · obtain rfl : c = t := by simpa using hc
      rw [hn] at hcn
      obtain rfl := Option.some.inj hcn
      rw [hf] at hm
      right
      rw [hm]
      refine List.mem_append_right _ ?_
      rcases hd with rfl | rfl <;> simp
  · rcases List.mem_append.1 hu with hu | hu
    · exact h.todo u (List.mem_cons_of_mem _ hu) hus
    · cases hf : n.f0 with
      | true => rw [hm, hf] at hu; simp at hu
      | false =>
        rw [hm, hf] at hu
        exact .kid hr hn hf (by simpa using hu) hus
theorem Bfs.done {cs : Cs} {root : Int} {kept : List Int} (h : Bfs cs root kept []) (c : Int) : c ∈ kept ↔ Reach cs [root] c := by
  refine ⟨h.sound c, fun hr => ?_⟩
  induction hr with
  | root h1 h2 =>
    rename_i i
    obtain rfl : i = root := by simpa using h1
    exact (h.first h2).elim id (fun hx => by cases hx)
  | kid h1 h2 h3 h4 h5 ih => exact (h.kids _ _ _ ih h2 h3 h4 h5).elim id (fun hx => by cases hx)
def taken (cs : Cs) : List Int := ((List.range cs.length).filter (fun i : Nat => (nodeAt cs (i : Int)).isSome)).map (fun i : Nat => (i : Int))
theorem mem_taken (cs : Cs) (c : Int) : c ∈ taken cs ↔ (nodeAt cs c).isSome = true := by
  unfold taken
  rw [List.mem_map]
  constructor
  · rintro ⟨i, hi, rfl⟩
    exact (List.mem_filter.1 hi).2
  · intro h
    have := nodeAt_lt h
    refine ⟨c.toNat, List.mem_filter.2 ⟨List.mem_range.2 this.2, ?_⟩, by omega⟩
    rw [Int.toNat_of_nonneg this.1]
    exact h
theorem taken_nodup (cs : Cs) : (taken cs).Nodup := by
  unfold taken
  unfold List.Nodup
  rw [List.pairwise_map]
  exact (List.Pairwise.filter _ List.nodup_range).imp (fun hne he => hne (by omega))
theorem taken_length : ∀ (cs : Cs) (j : Nat), j ≤ cs.length → ((List.range j).filter (fun i : Nat => (nodeAt cs (i : Int)).isSome)).length = usedN (cs.take j)
  | cs, 0, _ => by simp [usedN]
  | cs, j + 1, h => by
    have hj : cs[j]? = some cs[j] := List.getElem?_eq_getElem (by omega)
    rw [List.range_succ, List.filter_append, List.length_append, taken_length cs j (by omega), usedN_take cs j _ hj]
    have hn := nodeAt_get hj
    congr 1
    rw [List.filter_cons, hn]
    cases cs[j] <;> rfl
theorem usedN_taken (cs : Cs) : (taken cs).length = usedN cs := by
  have := taken_length cs cs.length (Nat.le_refl _)
  rw [List.take_length] at this
  unfold taken
  rw [List.length_map]
  exact this
theorem used_of {cs : Cs} {l : List Int} (hd : l.Nodup) (hm : ∀ c, c ∈ l ↔ (nodeAt cs c).isSome = true) : l.length = usedN cs := by
  rw [← usedN_taken]
  exact ((List.perm_ext_iff_of_nodup hd (taken_nodup cs)).2 (fun c => (hm c).trans (mem_taken cs c).symm)).length_eq
theorem used_le {cs : Cs} {l : List Int} (hd : l.Nodup) (hm : ∀ c, c ∈ l → (nodeAt cs c).isSome = true) : l.length ≤ cs.length := by
  have h2 := ((List.perm_ext_iff_of_nodup hd (List.Pairwise.filter (fun c => decide (c ∈ l)) (taken_nodup cs))).2 (fun c => by
    rw [List.mem_filter, decide_eq_true_eq]
    exact ⟨fun hc => ⟨(mem_taken cs c).2 (hm c hc), hc⟩, fun hc => hc.2⟩)).length_eq
  have h3 := List.length_filter_le (fun c => decide (c ∈ l)) (taken cs)
  rw [usedN_taken] at h3
  have := usedN_le cs
  omega
theorem sweepS_get (marks : List Bool) (cs : Cs) : ∀ (j k : Nat), k < j → j ≤ cs.length → (sweepS marks cs j).1[k]? = if marks.getD k false = true then cs[k]? else some none
  | 0, k, h, _ => absurd h (by omega)
  | j + 1, k, h, hj => by
    have hl := sweepS_length marks cs j
    simp only [sweepS]
    rcases Nat.lt_or_ge k j with hk | hk
    · have ih := sweepS_get marks cs j k hk (by omega)
      split
      · rw [List.getElem?_set_ne (by omega)]
        exact ih
      · exact ih
    · obtain rfl : k = j := by omega
      have hkk : cs[k]? = some cs[k] := List.getElem?_eq_getElem (by omega)
      have hn := nodeAt_get hkk
      split
      · rename_i hc
        simp only
        rw [List.getElem?_set_self (by omega), if_neg (by rw [hc.2]; simp)]
      · rename_i hc
        rw [sweepS_at marks cs k k (Nat.le_refl _), hkk]
        split
        · rfl
        · rename_i hm
          rw [hn] at hc
          cases hcs : cs[k] with
          | none => rfl
          | some n => exact absurd ⟨by rw [hcs]; rfl, by simpa using hm⟩ hc
theorem sweepS_count (marks : List Bool) (cs : Cs) : ∀ j, j ≤ cs.length → usedN (sweepS marks cs j).1 + (sweepS marks cs j).2 = usedN cs
  | 0, _ => rfl
  | j + 1, h => by
    have ih := sweepS_count marks cs j (by omega)
    simp only [sweepS]
    split
    · rename_i hc
      have hj : cs[j]? = some cs[j] := List.getElem?_eq_getElem (by omega)
      have hn := nodeAt_get hj
      rw [hn] at hc
      obtain ⟨n, hnn⟩ := Option.isSome_iff_exists.1 hc.1
      have := usedN_clear (sweepS marks cs j).1 j n (by rw [sweepS_at marks cs j j (Nat.le_refl _), hj, hnn])
      simp only
      omega
    · exact ih
theorem mk_getD {ms : List Bool} {k : Nat} : Mk ms (k : Int) ↔ ms.getD k false = true := by
  unfold Mk
  rw [Int.toNat_natCast, List.getD_eq_getElem?_getD]
  cases h : ms[k]? with
  | none => simp
  | some b => simp
theorem swept_in {cs : Cs} {ms : List Bool} (hl : ms.length = cs.length) {c : Int} (h0 : 0 ≤ c) (hm : Mk ms c) : nodeAt (sweepS ms cs cs.length).1 c = nodeAt cs c := by
  obtain ⟨k, rfl⟩ := Int.eq_ofNat_of_zero_le h0
  have hk : k < cs.length := by
    have := hm
    unfold Mk at this
    have := (List.getElem?_eq_some_iff.1 this).1
    omega
  have := sweepS_get ms cs cs.length k hk (Nat.le_refl _)
  rw [if_pos (mk_getD.1 hm)] at this
  unfold nodeAt
  rw [if_pos h0, if_pos h0, Int.toNat_natCast, this]
theorem swept_out {cs : Cs} {ms : List Bool} {c : Int} (h : (nodeAt (sweepS ms cs cs.length).1 c).isSome = true) : 0 ≤ c ∧ Mk ms c := by
  have hlt := nodeAt_lt h
  rw [sweepS_length] at hlt
  obtain ⟨k, rfl⟩ := Int.eq_ofNat_of_zero_le hlt.1
  rw [Int.toNat_natCast] at hlt
  refine ⟨hlt.1, ?_⟩
  have := sweepS_get ms cs cs.length k hlt.2 (Nat.le_refl _)
  by_cases hm : ms.getD k false = true
  · exact mk_getD.2 hm
  · rw [if_neg hm] at this
    unfold nodeAt at h
    rw [if_pos hlt.1, Int.toNat_natCast, this] at h
    cases h
structure Left (cs cs' : Cs) (kept : List Int) (gone : Nat) : Prop where
  at_ : ∀ c, c ∈ kept → nodeAt cs' c = nodeAt cs c ∧ (nodeAt cs c).isSome = true
  used : usedN cs' = kept.length
  gone : usedN cs' + gone = usedN cs
theorem Bfs.left {cs : Cs} {root : Int} {kept : List Int} {ms : List Bool} (h : Bfs cs root kept []) (hd : Dfs cs [root] [] ms) : Left cs (sweepS ms cs cs.length).1 kept (sweepS ms cs cs.length).2 := by
  have hmk : ∀ c, c ∈ kept → 0 ≤ c ∧ Mk ms c := fun c hc => by
    have hr := h.sound c hc
    have h0 := (nodeAt_lt hr.some).1
    exact ⟨h0, (hd.done c h0).2 hr⟩
  refine ⟨fun c hc => ⟨swept_in hd.len (hmk c hc).1 (hmk c hc).2, (h.sound c hc).some⟩, (used_of h.dup (fun c => ?_)).symm, sweepS_count _ _ _ (Nat.le_refl _)⟩
  constructor
  · intro hc
    rw [swept_in hd.len (hmk c hc).1 (hmk c hc).2]
    exact (h.sound c hc).some
  · intro hc
    have hm := swept_out hc
    exact (h.done c).2 ((hd.done c hm.1).1 hm.2)
end Go.Proofs.YtdeneoknjeegbaaDoor.P
end
section
namespace Go.Proofs.YtdeneoknjeegbaaDoor.P
open Go.RowKit Go.Proofs.YtdeneoknjeegbaaDoorW.PrintWords Go.Proofs.YtdeneoknjeegbaaDoorW.PrintLast Go.Proofs.YtdeneoknjeegbaaDoorW.PrintMore
attribute [local go_sem] max2_int min2_int max_two min_two max_three min_three max_four min_four
set_option linter.unusedVariables false
set_option linter.unusedSimpArgs false
def slices_Index_int_int.l0 : Nat → List Int → Int → Int → Int → Option (Int)
  | 0, _, _, _, _ => none
  | k + 1, x0, x1, x7, x8 => if x8 < x7 then (if 0 ≤ x8 then (if x8 < (x0.length : Int) then (if x1 = (rd x0 x8) then (some x8) else (slices_Index_int_int.l0 k x0 x1 x7 (wrap64 (x8 + 1)))) else (none)) else (none)) else (some (-1))
def slices_Index_int_int.f (k : Nat) (l0 : List Int) (a1 : Int) : Option (Int) := slices_Index_int_int.l0 k l0 a1 (l0.length : Int) 0
set_option maxHeartbeats 8000000 in
set_option maxRecDepth 100000 in
theorem slices_Index_int_int.calls (k : Nat) (A0 : Option Addr) (c0 : Nat) (l0 : List Int) (a1 : Int) (r : Int) (w : World) (hr0 : Kd.C (Kd.int .i64) w A0 l0.length l0) (hc0 : l0.length ≤ c0) (h : slices_Index_int_int.f k l0 a1 = some r) :
    Calls Tryd.prog 46 #[.slice A0 l0.length c0, .int .i64 a1] w fun e w' => e = .returned (.int .i64 r) ∧ Drawn0 w w' := by
  have HR0 := Aside0.mk hr0
  have HC0 := Aside0.mk hc0
  clear hr0 hc0
  have H : (slices_Index_int_int.l0 k l0 a1 (l0.length : Int) 0) = some r := h
  clear h
  have H' := Aside0.mk H
  clear H
  go_enter Tryd.func46, Tryd.ntmps46
  go_wp2
  go_loopg [8] k (fun kq v8 w' => ∃ (x8_1 : Int), v8 = .int .i64 x8_1 ∧ Aside0 (slices_Index_int_int.l0 kq l0 a1 (l0.length : Int) x8_1 = some r) ∧ Aside0 (kq ≤ k) ∧ Drawn0 w w')
  case atStart => exact ⟨(0), (by first | rfl | (simp; done) | (simp [*]; done)), H', ⟨Nat.le_refl _⟩, by repeat (first | exact Drawn0.refl _ | apply Drawn0.step)⟩
  case round =>
    clear H'
    try clear p2
    obtain ⟨x8_1, rfl, HA, HK1, ⟨m1, rfl⟩⟩ := hrel
    cases gk with
    | zero => exact absurd HA.out (by simp [slices_Index_int_int.l0])
    | succ k1 =>
      have H := HA.out
      clear HA
      simp only [slices_Index_int_int.l0] at H
      by_cases c3 : x8_1 < (l0.length : Int)
      · rw [if_pos c3] at H
        have c3b0 : decide (x8_1 < (l0.length : Int)) = true := decide_eq_true c3
        clear c3
        by_cases c4 : 0 ≤ x8_1
        · rw [if_pos c4] at H
          have c4b0 : decide (0 ≤ x8_1) = true := decide_eq_true c4
          clear c4
          by_cases c5 : x8_1 < (l0.length : Int)
          · rw [if_pos c5] at H
            have c5b0 : decide (x8_1 < (l0.length : Int)) = true := decide_eq_true c5
            clear c5
            by_cases c6 : a1 = (rd l0 x8_1)
            · rw [if_pos c6] at H
              have c6b0 : (a1 == (rd l0 x8_1)) = true := beq_iff_eq.mpr c6
              have c6b1 : (a1 != (rd l0 x8_1)) = false := bne_eq_false_iff_eq.mpr c6
              clear c6
              obtain rfl := Option.some.inj H
              have p344 : 0 ≤ (x8_1 : Int) := of_decide_eq_true (by first | (with_reducible assumption) | assumption)
              have q344 : x8_1 < (l0.length : Int) := of_decide_eq_true (by first | (with_reducible assumption) | assumption)
              obtain ⟨ad344, e344, hx344_0⟩ := Kd.at_int HR0.out x8_1 p344 q344
              cases e344
              replace p344 := eq_true p344
              replace q344 := eq_true q344
              go_wp2
              go_ret
              exact ⟨by first | rfl | (simp; done) | (simp [*]; done), by repeat (first | exact Drawn0.refl _ | apply Drawn0.step)⟩
            · rw [if_neg c6] at H
              have c6b0 : (a1 == (rd l0 x8_1)) = false := beq_eq_false_iff_ne.mpr c6
              have c6b1 : (a1 != (rd l0 x8_1)) = true := bne_iff_ne.mpr c6
              have H' := Aside0.mk H
              clear H
              have p344 : 0 ≤ (x8_1 : Int) := of_decide_eq_true (by first | (with_reducible assumption) | assumption)
              have q344 : x8_1 < (l0.length : Int) := of_decide_eq_true (by first | (with_reducible assumption) | assumption)
              obtain ⟨ad344, e344, hx344_0⟩ := Kd.at_int HR0.out x8_1 p344 q344
              cases e344
              replace p344 := eq_true p344
              replace q344 := eq_true q344
              go_wp2
              go_roundg k1
              case measure => have := HK1.out; omega
              case rel => exact ⟨(wrap64 (x8_1 + 1)), (by first | rfl | (simp; done) | (simp [*]; done)), H', ⟨by have := HK1.out; omega⟩, by repeat (first | exact Drawn0.refl _ | apply Drawn0.step)⟩
          · rw [if_neg c5] at H
            exact absurd H (by simp)
        · rw [if_neg c4] at H
          exact absurd H (by simp)
      · rw [if_neg c3] at H
        have c3b0 : decide (x8_1 < (l0.length : Int)) = false := decide_eq_false c3
        clear c3
        obtain rfl := Option.some.inj H
        go_wp2
        go_ret
        exact ⟨by first | rfl | (simp; done) | (simp [*]; done), by repeat (first | exact Drawn0.refl _ | apply Drawn0.step)⟩
end Go.Proofs.YtdeneoknjeegbaaDoor.P
end
