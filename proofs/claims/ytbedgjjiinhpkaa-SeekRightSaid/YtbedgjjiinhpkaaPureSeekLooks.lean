/-
  SeekLooks on numbers: the epochs that seek.Probes looks at, and the one that seek.Find finds, are the reference's, whatever the times.
-/
import Derived.Test.YtbedgjjiinhpkaaFannalslaw20SeekLooks
set_option linter.unusedVariables false
set_option linter.unusedSimpArgs false
namespace Go.Proofs.Ytbedgjjiinhpkaa.Pure
open Go.RowKit Go.Proofs.Ytbedgjjiinhpkaa.P Go.Proofs.YtbedgjjiinhpkaaW.PrintWords Go.Proofs.YtbedgjjiinhpkaaW.PrintLast Go.Proofs.YtbedgjjiinhpkaaW.PrintMore

theorem equal_l0 (l : List Int) (hl : l.length < 1000000000) : ∀ (d k : Nat) (i : Int), 0 ≤ i → i ≤ l.length → (l.length : Int) - i = d → d < k →
    slices_Equal_int_int.l0 k l l (l.length : Int) i = some true := by
  intro d
  induction d with
  | zero =>
    intro k i h0 h1 hd hk
    obtain ⟨k, rfl⟩ : ∃ m, k = m + 1 := ⟨k - 1, by omega⟩
    simp only [slices_Equal_int_int.l0]
    rw [if_neg (by omega)]
  | succ d ih =>
    intro k i h0 h1 hd hk
    obtain ⟨k, rfl⟩ : ∃ m, k = m + 1 := ⟨k - 1, by omega⟩
    simp only [slices_Equal_int_int.l0]
    rw [if_pos (by omega), if_pos h0, if_pos (by omega), if_pos (by omega), if_pos trivial, show wrap64 (i + 1) = i + 1 from by unfold wrap64; omega]
    exact ih k (i + 1) (by omega) (by omega) (by omega) (by omega)

theorem equal_same (l : List Int) (hl : l.length < 1000000000) (k : Nat) (hk : l.length < k) : slices_Equal_int_int.f k l l = some true := by
  unfold slices_Equal_int_int.f
  rw [if_pos rfl]
  exact equal_l0 l hl l.length k 0 (by omega) (by omega) (by omega) hk

/-- What the reference's loop over looks comes to. -/
def lastOf (ts : List Int) (t : Int) (l : List Int) (x : Int) : Int := l.foldl (fun x a => if rd ts a ≤ t then a else x) x

theorem lastOf_snoc (ts : List Int) (t : Int) (l : List Int) (a x : Int) : lastOf ts t (l ++ [a]) x = if rd ts a ≤ t then a else lastOf ts t l x := by
  simp [lastOf, List.foldl_append]

/-- The search's loop: it never leaves the times, and what it finds is the last look that is not behind. -/
theorem lookGo_facts (ts : List Int) (t : Int) : ∀ (m : Nat) (low high : Int) (acc : List Int), 0 ≤ low → high < ts.length → high - low ≤ m →
    (∀ a ∈ acc, 0 ≤ a ∧ a < ts.length) → lastOf ts t acc 0 = low →
    (∀ a ∈ (lookGo ts t m low high acc).1, 0 ≤ a ∧ a < ts.length) ∧ lastOf ts t (lookGo ts t m low high acc).1 0 = (lookGo ts t m low high acc).2 ∧ (lookGo ts t m low high acc).1.length ≤ acc.length + m := by
  intro m
  induction m with
  | zero => intro low high acc h0 h1 h2 ha hl; simp only [lookGo]; exact ⟨ha, hl, by omega⟩
  | succ m ih =>
    intro low high acc h0 h1 h2 ha hl
    simp only [lookGo]
    by_cases hlt : low < high
    · rw [if_pos hlt]
      obtain ⟨at_, hat⟩ : ∃ x, x = low + (high - low + 1) / 2 := ⟨_, rfl⟩
      rw [← hat]
      have hb : ∀ a ∈ acc ++ [at_], 0 ≤ a ∧ a < ts.length := by
        intro a h
        rcases List.mem_append.1 h with h | h
        · exact ha a h
        · rw [List.mem_singleton] at h
          omega
      by_cases ht : t < rd ts at_
      · rw [if_pos ht]
        have := ih low (at_ - 1) (acc ++ [at_]) h0 (by omega) (by omega) hb (by rw [lastOf_snoc, if_neg (by omega)]; exact hl)
        simp only [List.length_append, List.length_cons, List.length_nil] at this
        exact ⟨this.1, this.2.1, by omega⟩
      · rw [if_neg ht]
        have := ih at_ high (acc ++ [at_]) (by omega) h1 (by omega) hb (by rw [lastOf_snoc, if_pos (by omega)])
        simp only [List.length_append, List.length_cons, List.length_nil] at this
        exact ⟨this.1, this.2.1, by omega⟩
    · rw [if_neg hlt]
      exact ⟨ha, hl, Nat.le_add_right _ _⟩

theorem probes_l0 (ts : List Int) (t : Int) (hb : ts.length < 1000000) : ∀ (m k : Nat) (low high : Int) (acc : List Int), 0 ≤ low → low ≤ high → high < ts.length → high - low ≤ m → m < k → acc.length + m < 10000000 →
    annalsref20_Probes.l0 k ts t acc low high = some (lookGo ts t m low high acc).1 := by
  intro m
  induction m with
  | zero =>
    intro k low high acc h0 h1 h2 h3 hk ha
    obtain ⟨k, rfl⟩ : ∃ m, k = m + 1 := ⟨k - 1, by omega⟩
    simp only [annalsref20_Probes.l0, lookGo]
    rw [if_neg (by omega)]
  | succ m ih =>
    intro k low high acc h0 h1 h2 h3 hk ha
    obtain ⟨k, rfl⟩ : ∃ m, k = m + 1 := ⟨k - 1, by omega⟩
    simp only [annalsref20_Probes.l0, lookGo]
    by_cases hlt : low < high
    · rw [if_pos hlt, if_pos hlt, if_pos (by omega)]
      obtain ⟨at_, hat⟩ : ∃ x, x = low + (high - low + 1) / 2 := ⟨_, rfl⟩
      have e1 : wrap64 (low + high) = low + high := by unfold wrap64; omega
      have e2 : wrap64 (low + high + 1) = low + high + 1 := by unfold wrap64; omega
      have e3 : Int.tdiv (low + high + 1) 2 = (low + high + 1) / 2 := Int.tdiv_eq_ediv_of_nonneg (by omega)
      have e4 : wrap64 ((low + high + 1) / 2) = at_ := by unfold wrap64; omega
      have e5 : wrap64 (at_ - 1) = at_ - 1 := by unfold wrap64; omega
      rw [e1, e2, e3, e4, ← hat]
      simp only [Option.bind_some]
      rw [if_pos (by omega), if_pos (by omega)]
      by_cases ht : t < rd ts at_
      · rw [if_neg (by omega), if_pos ht, e5]
        exact ih k low (at_ - 1) (acc ++ [at_]) h0 (by omega) (by omega) (by omega) (by omega) (by simp; omega)
      · rw [if_pos (by omega), if_neg ht]
        exact ih k at_ high (acc ++ [at_]) (by omega) (by omega) (by omega) (by omega) (by omega) (by simp; omega)
    · rw [if_neg hlt, if_neg hlt]

theorem probes_f (ts : List Int) (t : Int) (hb : ts.length < 1000000) (k : Nat) (hk : ts.length < k) : annalsref20_Probes.f k ts t = some (lookRun ts t).1 := by
  unfold annalsref20_Probes.f lookRun
  by_cases h0 : ts.length = 0
  · rw [if_pos (by omega), if_pos h0]
  · rw [if_neg (by omega), if_neg h0]
    simp only [Option.bind_some]
    rw [if_pos (by omega)]
    by_cases ht : t < rd ts 0
    · rw [if_pos (by omega), if_pos ht]
    · rw [if_neg (by omega), if_neg ht, show wrap64 ((ts.length : Int) - 1) = ts.length - 1 from by unfold wrap64; omega]
      exact probes_l0 ts t hb ts.length k 0 (ts.length - 1) [0] (by omega) (by omega) (by omega) (by omega) hk (by simp; omega)

theorem rd_mem (l : List Int) (i : Int) (h0 : 0 ≤ i) (h1 : i < l.length) : rd l i ∈ l := by
  unfold rd
  rw [List.getD_eq_getElem?_getD, List.getElem?_eq_getElem (by omega)]
  exact List.getElem_mem _

theorem rd_drop (l : List Int) (i : Nat) (h : i < l.length) : l.drop i = rd l i :: l.drop (i + 1) := by
  rw [List.drop_eq_getElem_cons h]
  unfold rd
  rw [List.getD_eq_getElem?_getD, Int.toNat_natCast, List.getElem?_eq_getElem h]
  rfl

theorem find_l0 (ts : List Int) (t : Int) (l : List Int) (hl : l.length < 10000000) (hm : ∀ a ∈ l, 0 ≤ a ∧ a < ts.length) : ∀ (d k i : Nat) (x : Int), i ≤ l.length → l.length - i = d → d < k →
    annalsref20_Find.l0 k ts t x l (l.length : Int) i = some (lastOf ts t (l.drop i) x) := by
  intro d
  induction d with
  | zero =>
    intro k i x h1 hd hk
    obtain ⟨k, rfl⟩ : ∃ m, k = m + 1 := ⟨k - 1, by omega⟩
    simp only [annalsref20_Find.l0]
    rw [if_neg (by omega), List.drop_of_length_le (by omega)]
    rfl
  | succ d ih =>
    intro k i x h1 hd hk
    obtain ⟨k, rfl⟩ : ∃ m, k = m + 1 := ⟨k - 1, by omega⟩
    simp only [annalsref20_Find.l0]
    have hr := hm _ (rd_mem l i (by omega) (by omega))
    have e : wrap64 ((i : Int) + 1) = ((i + 1 : Nat) : Int) := by unfold wrap64; omega
    rw [if_pos (by omega), if_pos (by omega), if_pos (by omega), if_pos hr.1, if_pos hr.2, e, rd_drop l i (by omega)]
    have step : ∀ y, lastOf ts t (rd l i :: l.drop (i + 1)) y = lastOf ts t (l.drop (i + 1)) (if rd ts (rd l i) ≤ t then rd l i else y) := fun y => rfl
    rw [step]
    by_cases h : rd ts (rd l i) ≤ t
    · rw [if_pos h, if_pos h]
      exact ih k (i + 1) _ (by omega) (by omega) (by omega)
    · rw [if_neg h, if_neg h]
      exact ih k (i + 1) _ (by omega) (by omega) (by omega)

/-- The looks lie in the times; the last one that is not behind is what is found. -/
theorem lookRun_facts (ts : List Int) (t : Int) (h0 : 0 < ts.length) (ht : ¬ t < rd ts 0) :
    (∀ a ∈ (lookRun ts t).1, 0 ≤ a ∧ a < ts.length) ∧ lastOf ts t (lookRun ts t).1 0 = (lookRun ts t).2 ∧ (lookRun ts t).1.length ≤ 1 + ts.length := by
  unfold lookRun
  rw [if_neg (by omega), if_neg ht]
  refine lookGo_facts ts t ts.length 0 (ts.length - 1) [0] (by omega) (by omega) (by omega) ?_ ?_
  · intro a h
    rw [List.mem_singleton] at h
    omega
  · show (if rd ts 0 ≤ t then (0 : Int) else 0) = 0
    split <;> rfl

theorem find_f (ts : List Int) (t : Int) (hb : ts.length < 1000000) (k : Nat) (hk : ts.length + 3 < k) : annalsref20_Find.f k ts t = some (lookRun ts t).2 := by
  obtain ⟨k, rfl⟩ : ∃ m, k = m + 1 := ⟨k - 1, by omega⟩
  unfold annalsref20_Find.f
  by_cases h0 : ts.length = 0
  · rw [if_pos (by omega)]
    simp only [annalsref20_Find.j0]
    unfold lookRun
    rw [if_pos trivial, if_pos h0]
  · rw [if_neg (by omega), if_pos (by omega)]
    simp only [annalsref20_Find.j0]
    by_cases ht : t < rd ts 0
    · unfold lookRun
      rw [if_pos (by simpa using ht), if_neg h0, if_pos ht]
    · have hF := lookRun_facts ts t (by omega) ht
      rw [if_neg (by simpa using ht), probes_f ts t hb k (by omega)]
      simp only [Option.bind_some]
      have := find_l0 ts t (lookRun ts t).1 (by omega) hF.1 (lookRun ts t).1.length k 0 0 (by omega) (by omega) (by omega)
      rw [List.drop_zero, hF.2.1] at this
      exact this

theorem awake_f (k : Nat) (hk : 10 < k) : annalslaw20_awake.f k = some true := by
  unfold annalslaw20_awake.f seek_Probes.f seek_Find.f
  have e1 : lookRun [0, 5, 5, 9, 9] 4 = ([0, 2, 1], 0) := by decide +kernel
  have e2 : lookRun [0, 5, 5, 9, 9] 5 = ([0, 2, 3], 2) := by decide +kernel
  rw [if_pos (by simp), if_pos (by simp), e1, e2]
  simp only [Option.bind_some]
  rw [equal_same [0, 2, 1] (by simp) k (by simp; omega)]
  rfl

theorem SeekLooks : annalslaw20_SeekLooks.Pure := by
  intro l0 a1 _ _ _ _
  refine ⟨1000, ?_⟩
  unfold annalslaw20_SeekLooks.f
  have m0 : 0 ≤ mn (l0.length : Int) 300 := by unfold mn; omega
  have m1 : mn (l0.length : Int) 300 ≤ l0.length := by unfold mn; omega
  have m2 : mn (l0.length : Int) 300 ≤ 300 := by unfold mn; omega
  rw [if_pos m0, if_pos m1]
  obtain ⟨ts, hts⟩ : ∃ ts, ts = l0.take (mn (l0.length : Int) 300).toNat := ⟨_, rfl⟩
  have hlen : ts.length ≤ 300 := by rw [hts, List.length_take]; omega
  rw [← hts]
  unfold seek_Probes.f seek_Find.f
  rw [if_pos (by omega), if_pos (by omega), probes_f ts a1 (by omega) 1000 (by omega), find_f ts a1 (by omega) 1000 (by omega), awake_f 1000 (by omega)]
  simp only [Option.bind_some]
  have hp : (lookRun ts a1).1.length ≤ 301 := by
    by_cases h0 : ts.length = 0
    · unfold lookRun
      rw [if_pos h0]
      simp
    · by_cases ht : a1 < rd ts 0
      · unfold lookRun
        rw [if_neg h0, if_pos ht]
        simp
      · have := (lookRun_facts ts a1 (by omega) ht).2.2
        omega
  rw [equal_same _ (by omega) 1000 (by omega)]
  simp

end Go.Proofs.Ytbedgjjiinhpkaa.Pure
