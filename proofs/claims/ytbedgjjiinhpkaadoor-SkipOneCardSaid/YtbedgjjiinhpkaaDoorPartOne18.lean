/- Lemmas of this claim, part 18. -/
import Derived.Test.YtbedgjjiinhpkaaDoorPartOne17
import Derived.Test.YtbedgjjiinhpkaaDoorPartOne15
import Derived.Test.YtbedgjjiinhpkaaDoorPartOne3
section
set_option linter.unusedVariables false
set_option linter.unusedSimpArgs false
namespace Go.Proofs.YtbedgjjiinhpkaaDoor.P
open Go.RowKit Go.Proofs.YtbedgjjiinhpkaaDoor.Pure Go.Proofs.YtbedgjjiinhpkaaDoorW.PrintWords Go.Proofs.YtbedgjjiinhpkaaDoorW.PrintLast Go.Proofs.YtbedgjjiinhpkaaDoorW.PrintMore
def SameR (a b : Rec) : Prop := a.f0 = b.f0 ∧ a.f1 = b.f1 ∧ a.f2 = b.f2 ∧ a.f3 = b.f3 ∧ a.f4 = b.f4 ∧ a.f5 = b.f5
instance (a b : Rec) : Decidable (SameR a b) := by unfold SameR; infer_instance
theorem SameR.refl (a : Rec) : SameR a a := ⟨rfl, rfl, rfl, rfl, rfl, rfl⟩
theorem SameR.eq {a b : Rec} (h : SameR a b) : a = b := by
  cases a
  cases b
  obtain ⟨h0, h1, h2, h3, h4, h5⟩ := h
  simp only at h0 h1 h2 h3 h4 h5
  subst h0 h1 h2 h3 h4 h5
  rfl
theorem strNum_iff {a b : List Int} (ha : BytesOk a) (hb : BytesOk b) : ((strOfNums a).toList = (strOfNums b).toList) ↔ a = b := by
  have := strNum_eq ha hb
  rw [Bool.eq_iff_iff, beq_iff_eq, decide_eq_true_eq] at this
  exact this
theorem same_l0 (a b : Rec) (ha : ∀ p ∈ a.f5, BytesOk p) (hb : ∀ p ∈ b.f5, BytesOk p) (hl : a.f5.length = b.f5.length) (hm : a.f5.length ≤ 9223372036854775807) : ∀ (d k i : Nat), i + d = a.f5.length → d < k →
    annalsref13_Same.l0 k (a.f5.length : Int) (i : Int) a.f0 a.f1 a.f2 a.f3 a.f4 a.f5 b.f0 b.f1 b.f2 b.f3 b.f4 b.f5 = some (decide (a.f5.drop i = b.f5.drop i)) := by
  intro d
  induction d with
  | zero =>
    intro k i hi hk
    obtain ⟨k, rfl⟩ : ∃ m, k = m + 1 := ⟨k - 1, by omega⟩
    simp only [annalsref13_Same.l0]
    rw [if_neg (by omega), List.drop_of_length_le (by omega), List.drop_of_length_le (by omega)]
    rfl
  | succ d ih =>
    intro k i hi hk
    obtain ⟨k, rfl⟩ : ∃ m, k = m + 1 := ⟨k - 1, by omega⟩
    have h1 : i < a.f5.length := by omega
    have h2 : i < b.f5.length := by omega
    simp only [annalsref13_Same.l0]
    rw [if_pos (by omega), if_pos (by omega), if_pos (by omega), if_pos (by omega), rd_L1_at _ _ h1, rd_L1_at _ _ h2, List.drop_eq_getElem_cons h1, List.drop_eq_getElem_cons h2]
    have hq := strNum_iff (ha _ (List.getElem_mem h1)) (hb _ (List.getElem_mem h2))
    by_cases he : a.f5[i] = b.f5[i]
    · rw [if_pos (hq.2 he), wrap64_id _ (by omega), show ((i : Int) + 1) = ((i + 1 : Nat) : Int) by omega, ih k (i + 1) (by omega) (by omega)]
      exact congrArg some (decide_eq_decide.2 ⟨fun h => by rw [he, h], fun h => (List.cons.inj h).2⟩)
    · rw [if_neg (fun h => he (hq.1 h)), decide_eq_false (fun h => he (List.cons.inj h).1)]
theorem same_f (a b : Rec) (ha : RecOk a) (hb : RecOk b) (k : Nat) (hk : a.f5.length + 2 < k) (hm : a.f5.length ≤ 9223372036854775807) : annalsref13_Same.f k a.f0 a.f1 a.f2 a.f3 a.f4 a.f5 b.f0 b.f1 b.f2 b.f3 b.f4 b.f5 = some (decide (SameR a b)) := by
  obtain ⟨k, rfl⟩ : ∃ m, k = m + 1 := ⟨k - 1, by omega⟩
  have hno : ¬ SameR a b → annalsref13_Same.j0 (k + 1) true a.f0 a.f1 a.f2 a.f3 a.f4 a.f5 b.f0 b.f1 b.f2 b.f3 b.f4 b.f5 = some (decide (SameR a b)) := fun h => by
    simp only [annalsref13_Same.j0]
    rw [if_pos trivial, decide_eq_false h]
  unfold annalsref13_Same.f
  by_cases h0 : a.f0 = b.f0
  case neg => rw [if_neg h0]; exact hno (fun h => h0 h.1)
  rw [if_pos h0]
  by_cases h1 : a.f1 = b.f1
  case neg => rw [if_neg h1]; exact hno (fun h => h1 h.2.1)
  rw [if_pos h1]
  by_cases h2 : a.f2 = b.f2
  case neg => rw [if_neg (fun h => h2 ((strNum_iff ha.t2 hb.t2).1 h))]; exact hno (fun h => h2 h.2.2.1)
  rw [if_pos ((strNum_iff ha.t2 hb.t2).2 h2)]
  by_cases h3 : a.f3 = b.f3
  case neg => rw [if_neg h3]; exact hno (fun h => h3 h.2.2.2.1)
  rw [if_pos h3]
  by_cases h4 : a.f4 = b.f4
  case neg => rw [if_neg (fun h => h4 ((strNum_iff ha.t4 hb.t4).1 h))]; exact hno (fun h => h4 h.2.2.2.2.1)
  rw [if_pos ((strNum_iff ha.t4 hb.t4).2 h4)]
  by_cases hl : a.f5.length = b.f5.length
  case neg =>
    rw [show ((a.f5.length : Int) != (b.f5.length : Int)) = true from by simp; omega]
    exact hno (fun h => hl (by rw [h.2.2.2.2.2]))
  rw [show ((a.f5.length : Int) != (b.f5.length : Int)) = false from by simp; omega]
  simp only [annalsref13_Same.j0]
  rw [if_neg (by simp)]
  have := same_l0 a b ha.t5 hb.t5 hl hm a.f5.length k 0 (by omega) (by omega)
  rw [List.drop_zero, List.drop_zero] at this
  refine this.trans (congrArg some (decide_eq_decide.2 ⟨fun h => ⟨h0, h1, h2, h3, h4, h⟩, fun h => h.2.2.2.2.2⟩))
theorem followS_ok (size t : Int) : ∀ (l : List Rec) (x y : Rec), CanR size x → RecOk x → (∀ r ∈ l, RecOk r) → followS size t x l = some y → CanR size y ∧ RecOk y ∧ y.f0 = t := by
  intro l
  induction l with
  | nil =>
    intro x y hx ho _ h
    simp only [followS] at h
    split at h
    · rename_i hxt
      obtain rfl := Option.some.inj h
      exact ⟨hx, ho, hxt⟩
    · cases h
  | cons r l ih =>
    intro x y hx ho hl h
    simp only [followS] at h
    split at h
    · cases h
    · split at h
      · rename_i hc
        exact ih r y hc.2.1 (hl r List.mem_cons_self) (fun q hq => hl q (List.mem_cons_of_mem _ hq)) h
      · cases h
theorem zero_ok : RecOk z40 := ⟨by decide, by decide, (by intro x hx; cases hx), (by intro x hx; cases hx), (by intro x hx; cases hx)⟩
theorem handed_ok (size t : Int) (x : Rec) (way : List Rec) (ho : RecOk x) (hl : ∀ r ∈ way, RecOk r) : RecOk (handed (followR size x way t)).1 ∧ (handed (followR size x way t)).1.f5.length ≤ 63 := by
  cases h : followR size x way t with
  | none => exact ⟨zero_ok, Nat.zero_le _⟩
  | some y =>
    unfold followR at h
    split at h
    · rename_i hc
      have := followS_ok size t way x y hc.1 ho hl h
      exact ⟨this.2.1, (can_links size y this.1).1⟩
    · cases h
attribute [local go_sem] max2_int min2_int max_two min_two
end Go.Proofs.YtbedgjjiinhpkaaDoor.P
end
