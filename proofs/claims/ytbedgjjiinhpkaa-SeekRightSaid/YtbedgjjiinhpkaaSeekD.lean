/-
  SeekRight: of times in order, the one that is found is the last that is not above; few are looked at. The walk, its plain law beside it.
-/
import Derived.Test.YtbedgjjiinhpkaaShelf
import Derived.Test.YtbedgjjiinhpkaaPureSeekLooks
import Derived.Sort.OwnSortedInts
import Derived.OpenShut
set_option linter.unusedVariables false
set_option linter.unusedSimpArgs false
namespace Go.Proofs.Ytbedgjjiinhpkaa.P
open Go.RowKit Go.Proofs.YtbedgjjiinhpkaaW.PrintWords Go.Proofs.YtbedgjjiinhpkaaW.PrintLast Go.Proofs.YtbedgjjiinhpkaaW.PrintMore

/-- The times in order. -/
def inOrder (ts : List Int) : List Int := ts.mergeSort fun x y => decide (x ≤ y)
theorem inOrder_length (ts : List Int) : (inOrder ts).length = ts.length := List.length_mergeSort _
/-- The last of the first k that is not above t. -/
def lastLe (zs : List Int) (t : Int) : Nat → Int
  | 0 => -1
  | k + 1 => if rd zs k ≤ t then k else lastLe zs t k

theorem clone_any (A : Option Addr) (c : Nat) (ts : List Int) (w : World) (hr : Kd.C (Kd.int .i64) w A ts.length ts) (hl : ts.length ≤ 300) :
    Calls Try.prog 11 #[.slice A ts.length c] w fun e w' => ∃ v', e = .returned v' ∧ w'.ownsRow w.heap.size 3 1 v' ts.length (ts.map (Value.int .i64)) ∧ Below w.heap.size w w' := by
  by_cases h0 : ts.length = 0
  · obtain rfl := List.eq_nil_of_length_eq_zero h0
    cases A with
    | none =>
      refine (Try.slices_Clone_int_nil 0 c w).mono ?_
      rintro e w' ⟨rfl, rfl⟩
      exact ⟨_, rfl, World.ownsRow_nil _ _ _ _, Below.refl _ _⟩
    | some a =>
      refine (Try.slices_Clone_int_zero a c w).mono ?_
      rintro e w' ⟨v', rfl, h1, _, h2⟩
      exact ⟨_, rfl, h1, h2⟩
  · have hR := Kd.reads_of_C (d := (0 : Int)) hr
    obtain ⟨ad, rfl, hc⟩ := hR.2.2 (by omega)
    obtain ⟨b, off, rfl, hcell⟩ := ints_at hc (by omega)
    refine (Try.slices_Clone_int b off ts.length c ts w (Nat.le_refl _) (by omega) hcell).mono ?_
    rintro e w' ⟨v', rfl, h1, _, h2⟩
    rw [List.take_length] at h1
    exact ⟨_, rfl, h1, h2⟩

theorem sort_any (base : Nat) (v : Value) (ts : List Int) (w0 w : World) (ho : w.ownsRow base 3 1 v ts.length (ts.map (Value.int .i64))) (hb : Below w0.heap.size w0 w) (hbase : w0.heap.size ≤ base) (hl : ts.length ≤ 300) :
    Calls Try.prog 12 #[v] w fun e w' => e = .returned (.tuple #[]) ∧ w'.ownsRow base 3 1 v ts.length ((inOrder ts).map (Value.int .i64)) ∧ Below w0.heap.size w0 w' := by
  rcases ho.2 with ⟨rfl, h0⟩ | ⟨g, cap, cur, rfl, hg, hcur, hn, hcap, hsz, htk⟩
  · obtain rfl := List.eq_nil_of_length_eq_zero h0
    refine (Try.slices_Sort_int_none none 0 w).mono ?_
    rintro e w' ⟨rfl, rfl⟩
    exact ⟨rfl, by simpa [inOrder] using ho, hb⟩
  · have hH := holds_of_blockI hcur (by simpa using htk)
    have hlt : g < w.heap.size := by
      obtain ⟨h, -⟩ := Array.getElem?_eq_some_iff.1 hcur
      exact h
    refine (Try.slices_Sort_int g 0 cap ts w hH hlt (by omega)).mono ?_
    rintro e w' ⟨rfl, n, os, rfl⟩
    refine ⟨rfl, ownsRow_sortedI (inOrder_length ts) hg hcur hn hcap hsz, ?_⟩
    exact hb.grown (grownBy_sortedI _) hb.size (fun k hk => by cases hk; omega)

/-! ### The plain law -/
def p2 : Nat → Nat
  | 0 => 1
  | k + 1 => 2 * p2 k

theorem lookGo_len (ts : List Int) (t : Int) : ∀ (m p : Nat) (low high : Int) (acc : List Int), (high - low).toNat < p2 p → (lookGo ts t m low high acc).1.length ≤ acc.length + p := by
  intro m
  induction m with
  | zero => intro p low high acc _; exact Nat.le_add_right _ _
  | succ m ih =>
    intro p low high acc h
    simp only [lookGo]
    by_cases hlt : low < high
    · rw [if_pos hlt]
      cases p with
      | zero => simp only [p2] at h; omega
      | succ p =>
        simp only [p2] at h
        by_cases ht : t < rd ts (low + (high - low + 1) / 2)
        · rw [if_pos ht]
          have := ih p low (low + (high - low + 1) / 2 - 1) (acc ++ [low + (high - low + 1) / 2]) (by omega)
          simp only [List.length_append, List.length_cons, List.length_nil] at this
          omega
        · rw [if_neg ht]
          have := ih p (low + (high - low + 1) / 2) high (acc ++ [low + (high - low + 1) / 2]) (by omega)
          simp only [List.length_append, List.length_cons, List.length_nil] at this
          omega
    · rw [if_neg hlt]
      exact Nat.le_add_right _ _

theorem lookRun_len (ts : List Int) (t : Int) (h : ts.length ≤ 300) : (lookRun ts t).1.length ≤ 11 := by
  unfold lookRun
  split
  · simp
  split
  · simp
  · have := lookGo_len ts t ts.length 9 0 ((ts.length : Int) - 1) [0] (by show _ < 512; omega)
    simp only [List.length_cons, List.length_nil] at this
    omega

theorem lookGo_found (ts : List Int) (t : Int) (hs : ∀ i j : Nat, i ≤ j → j < ts.length → rd ts (i : Int) ≤ rd ts (j : Int)) : ∀ (m : Nat) (low high : Int) (acc : List Int), 0 ≤ low → low ≤ high → high < ts.length → high - low ≤ m →
    rd ts low ≤ t → (∀ i : Nat, high < i → i < ts.length → t < rd ts (i : Int)) →
    ∃ L : Nat, (lookGo ts t m low high acc).2 = (L : Int) ∧ L < ts.length ∧ rd ts (L : Int) ≤ t ∧ ∀ i : Nat, L < i → i < ts.length → t < rd ts (i : Int) := by
  intro m
  induction m with
  | zero =>
    intro low high acc h0 h1 h2 h3 hl hh
    refine ⟨low.toNat, by simp only [lookGo]; omega, by omega, by rw [Int.toNat_of_nonneg h0]; exact hl, fun i hi hn => hh i (by omega) hn⟩
  | succ m ih =>
    intro low high acc h0 h1 h2 h3 hl hh
    simp only [lookGo]
    by_cases hlt : low < high
    · rw [if_pos hlt]
      obtain ⟨at_, hat⟩ : ∃ x, x = low + (high - low + 1) / 2 := ⟨_, rfl⟩
      rw [← hat]
      by_cases ht : t < rd ts at_
      · rw [if_pos ht]
        refine ih low (at_ - 1) _ h0 (by omega) (by omega) (by omega) hl (fun i hi hn => ?_)
        have := hs at_.toNat i (by omega) hn
        rw [Int.toNat_of_nonneg (by omega)] at this
        omega
      · rw [if_neg ht]
        exact ih at_ high _ (by omega) (by omega) h2 (by omega) (by omega) hh
    · rw [if_neg hlt]
      refine ⟨low.toNat, by show low = _; omega, by omega, by rw [Int.toNat_of_nonneg h0]; exact hl, fun i hi hn => hh i (by omega) hn⟩

theorem lastLe_none (zs : List Int) (t : Int) (k : Nat) (h : ∀ i : Nat, i < k → t < rd zs (i : Int)) : lastLe zs t k = -1 := by
  induction k with
  | zero => rfl
  | succ k ih =>
    simp only [lastLe]
    rw [if_neg (by have := h k (by omega); omega)]
    exact ih (fun i hi => h i (by omega))
theorem lastLe_at (zs : List Int) (t : Int) (L k : Nat) (hL : L < k) (h1 : rd zs (L : Int) ≤ t) (h : ∀ i : Nat, L < i → i < k → t < rd zs (i : Int)) : lastLe zs t k = L := by
  induction k with
  | zero => omega
  | succ k ih =>
    simp only [lastLe]
    by_cases hk : L = k
    · subst hk
      rw [if_pos h1]
    · rw [if_neg (by have := h k (by omega) (by omega); omega)]
      exact ih (by omega) (fun i hi hn => h i hi (by omega))

theorem inOrder_le (ts : List Int) (i j : Nat) (h : i ≤ j) (hj : j < (inOrder ts).length) : rd (inOrder ts) (i : Int) ≤ rd (inOrder ts) (j : Int) := by
  have hp : (inOrder ts).Pairwise (fun x y => decide (x ≤ y) = true) := List.pairwise_mergeSort (fun a b c h1 h2 => by simp at *; omega) (fun a b => by simp; omega) ts
  by_cases he : i = j
  · subst he; exact Int.le_refl _
  · have := List.pairwise_iff_getElem.1 hp i j (by omega) hj (by omega)
    unfold rd
    rw [Int.toNat_natCast, Int.toNat_natCast, List.getD_eq_getElem?_getD, List.getD_eq_getElem?_getD, List.getElem?_eq_getElem hj, List.getElem?_eq_getElem (by omega)]
    simpa using this

theorem right_found (ts : List Int) (t : Int) : (lookRun (inOrder ts) t).2 = lastLe (inOrder ts) t (inOrder ts).length := by
  obtain ⟨zs, hzs⟩ : ∃ zs, zs = inOrder ts := ⟨_, rfl⟩
  have hs : ∀ i j : Nat, i ≤ j → j < zs.length → rd zs (i : Int) ≤ rd zs (j : Int) := fun i j h hj => by rw [hzs] at hj ⊢; exact inOrder_le ts i j h hj
  rw [← hzs]
  clear hzs
  unfold lookRun
  by_cases h0 : zs.length = 0
  · rw [if_pos h0, h0]
    rfl
  rw [if_neg h0]
  by_cases ht : t < rd zs 0
  · rw [if_pos ht, lastLe_none _ _ _ (fun i hi => ?_)]
    have := hs 0 i (Nat.zero_le _) hi
    simp only [Int.natCast_zero] at this
    omega
  · rw [if_neg ht]
    obtain ⟨L, e, hL, h1, h2⟩ := lookGo_found zs t hs zs.length 0 ((zs.length : Int) - 1) [0] (by omega) (by omega) (by omega) (by omega) (by omega) (fun i hi hn => by omega)
    rw [e, lastLe_at zs t L zs.length hL h1 h2]

end Go.Proofs.Ytbedgjjiinhpkaa.P
