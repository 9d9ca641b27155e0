/-
  SkipShort on numbers: each epoch of a way is linked by the one ahead and lies below it, the last one is where it leads, and there are no more than the bound.
-/
import Derived.Test.YtbedgjjiinhpkaaDoorFannalslaw14SkipShort
import Derived.Test.YtbedgjjiinhpkaaDoorPureSkip
set_option linter.unusedVariables false
set_option linter.unusedSimpArgs false
namespace Go.Proofs.YtbedgjjiinhpkaaDoor.Pure
open Go.RowKit Go.Proofs.YtbedgjjiinhpkaaDoor.P Go.Proofs.YtbedgjjiinhpkaaDoorW.PrintWords Go.Proofs.YtbedgjjiinhpkaaDoorW.PrintLast Go.Proofs.YtbedgjjiinhpkaaDoorW.PrintMore

theorem index_l0 (l : List Int) (x : Int) (hl : l.length < 1000000000) (j : Nat) (hj : j < l.length) (hx : rd l (j : Int) = x) : ∀ (d k i : Nat), i ≤ j → j - i = d → d < k →
    ∃ r : Int, slices_Index_int_int.l0 k l x (l.length : Int) (i : Int) = some r ∧ 0 ≤ r := by
  intro d
  induction d with
  | zero =>
    intro k i hi hd hk
    obtain ⟨k, rfl⟩ : ∃ m, k = m + 1 := ⟨k - 1, by omega⟩
    obtain rfl : i = j := by omega
    simp only [slices_Index_int_int.l0]
    rw [if_pos (by omega), if_pos (by omega), if_pos (by omega), if_pos hx.symm]
    exact ⟨_, rfl, by omega⟩
  | succ d ih =>
    intro k i hi hd hk
    obtain ⟨k, rfl⟩ : ∃ m, k = m + 1 := ⟨k - 1, by omega⟩
    simp only [slices_Index_int_int.l0]
    rw [if_pos (by omega), if_pos (by omega), if_pos (by omega), show wrap64 ((i : Int) + 1) = ((i + 1 : Nat) : Int) from by unfold wrap64; omega]
    by_cases h : x = rd l (i : Int)
    · rw [if_pos h]
      exact ⟨_, rfl, by omega⟩
    · rw [if_neg h]
      exact ih k (i + 1) (by omega) (by omega) (by omega)

theorem contains_f (l : List Int) (x : Int) (hl : l.length < 1000000000) (j : Nat) (hj : j < l.length) (hx : rd l (j : Int) = x) (k : Nat) (hk : l.length < k) : slices_Contains_int_int.f k l x = some true := by
  obtain ⟨r, h, h0⟩ := index_l0 l x hl j hj hx j k 0 (by omega) (by omega) (by omega)
  unfold slices_Contains_int_int.f slices_Index_int_int.f
  rw [show ((0 : Nat) : Int) = 0 from rfl] at h
  rw [h]
  simp only [Option.bind_some]
  congr 1
  simp
  omega

/-- The bound on a way that still leads from f to t. -/
def left (f t : Nat) : Nat := if bl (f - t) ≤ vz f + 1 then bl (f - t) else 2 * bl (f - t) - 1 - vz f

theorem left_le (f t : Nat) : left f t ≤ 2 * bl (f - t) := by
  unfold left
  split <;> omega

theorem left_step (f t : Nat) (h : t < f) (h1 : f < 9223372036854775808) (hn : t < nxt f t) : left (nxt f t) t + 1 ≤ left f t := by
  have hb := bl_spec (f - t) (by omega) (by omega)
  have hx := nxt_lt f t h h1
  have hmono : bl (nxt f t - t) ≤ bl (f - t) := bl_mono (by omega) (by omega)
  have hbn := bl_spec (nxt f t - t) (by omega) (by omega)
  unfold left
  by_cases hc : bl (f - t) ≤ vz f + 1
  · -- the hop is by the distance's first bit
    have hh : hop f t = bl (f - t) - 1 := Nat.min_eq_right (by omega)
    have e : nxt f t = f - p2 (bl (f - t) - 1) := by unfold nxt; rw [hh]
    have hs : p2 (bl (f - t)) = 2 * p2 (bl (f - t) - 1) := by
      have := p2_succ (bl (f - t) - 1)
      rw [show bl (f - t) - 1 + 1 = bl (f - t) from by omega] at this
      exact this
    have hlt : bl (nxt f t - t) ≤ bl (f - t) - 1 := bl_lt (by omega) (by omega)
    have hd : p2 (bl (f - t) - 1) ∣ nxt f t := by
      rw [e]
      exact Nat.dvd_sub (vz_dvd (by omega) h1 (by omega)) (Nat.dvd_refl _)
    have hv := vz_ge (by omega) (by omega) hd
    rw [if_pos hc, if_pos (by omega)]
    omega
  · have hh : hop f t = vz f := Nat.min_eq_left (by omega)
    have e : nxt f t = f - p2 (vz f) := by unfold nxt; rw [hh]
    have hd : p2 (vz f + 1) ∣ nxt f t := by
      rw [e]
      obtain ⟨m, hm⟩ := vz_odd f (by omega) h1
      refine ⟨m, ?_⟩
      rw [p2_succ]
      generalize vz f = v at *
      generalize p2 v = x at *
      rw [hm, Nat.mul_add, Nat.mul_one, Nat.add_sub_cancel, Nat.mul_comm 2 x, Nat.mul_assoc]
    have hv := vz_ge (by omega) (by omega) hd
    rw [if_neg hc]
    split
    · omega
    · omega

theorem wayL_bound : ∀ (n f t : Nat), t ≤ f → f < 9223372036854775808 → (wayL n f t).length ≤ left f t := by
  intro n
  induction n with
  | zero => intro f t _ _; simp [wayL]
  | succ n ih =>
    intro f t hle h1
    simp only [wayL]
    by_cases h : t < f
    · rw [if_pos h]
      have hx := nxt_lt f t h h1
      have := ih (nxt f t) t hx.1 (by omega)
      by_cases hn : t < nxt f t
      · have := left_step f t h h1 hn
        simp
        omega
      · have e : nxt f t = t := by omega
        have hz : wayL n t t = [] := by
          cases n with
          | zero => rfl
          | succ n => simp only [wayL]; rw [if_neg (by omega)]
        rw [e, hz]
        have hb := bl_spec (f - t) (by omega) (by omega)
        unfold left
        simp
        split <;> omega
    · rw [if_neg h]
      simp

theorem short_l0 (F d : Nat) (hF : F ≤ 1048576) (hd : d ≤ F) (W : List Int) (hW : (W.length : Int) ≤ 2 * (bl d : Int)) (hW2 : W.length < 10000000) : ∀ (n k at_ : Nat) (pre : List Int), W = pre ++ wayL n at_ (F - d) → F - d ≤ at_ → at_ ≤ F → at_ - (F - d) ≤ n → n + 1050000 < k →
    annalslaw14_SkipShort.l0 k (F : Int) (d : Int) W (at_ : Int) W (W.length : Int) (pre.length : Int) = some true := by
  intro n
  induction n with
  | zero =>
    intro k at_ pre hw h0 h1 hn hk
    obtain ⟨k, rfl⟩ : ∃ m, k = m + 1 := ⟨k - 1, by omega⟩
    have hl : W.length = pre.length := by rw [hw]; simp [wayL]
    simp only [annalslaw14_SkipShort.l0]
    rw [if_neg (by omega), if_pos (by unfold wrap64; omega), most_f (d : Int) (by omega) (by omega)]
    simp only [Option.bind_some, Int.toNat_natCast]
    rw [if_pos hW, awake_f k (by omega)]
    rfl
  | succ n ih =>
    intro k at_ pre hw h0 h1 hn hk
    obtain ⟨k, rfl⟩ : ∃ m, k = m + 1 := ⟨k - 1, by omega⟩
    by_cases h : F - d < at_
    · have hx := nxt_lt at_ (F - d) h (by omega)
      have hp := hop_le at_ (F - d) h (by omega)
      have hv := (vz_spec at_ (by omega) (by omega)).1
      have hhv : hop at_ (F - d) ≤ vz at_ := Nat.min_le_left _ _
      simp only [wayL] at hw
      rw [if_pos h] at hw
      have hl : pre.length < W.length := by rw [hw]; simp
      have hr : rd W (pre.length : Int) = (nxt at_ (F - d) : Int) := by
        unfold rd
        rw [Int.toNat_natCast, hw]
        simp
      have hc : slices_Contains_int_int.f k (links at_) (nxt at_ (F - d) : Int) = some true := by
        refine contains_f (links at_) _ (by rw [links_length]; omega) (hop at_ (F - d)) ?_ ?_ k (by rw [links_length]; omega)
        · rw [links_length]
          exact Nat.lt_succ_of_le hhv
        · rw [rd_links at_ _ (Nat.lt_succ_of_le hhv)]
          unfold nxt
          omega
      simp only [annalslaw14_SkipShort.l0]
      rw [hr, if_pos (by omega), if_pos (by omega), if_pos (by omega), links_f at_ (by omega) (by omega) k (by omega)]
      simp only [Option.bind_some]
      rw [hc]
      simp only [Option.bind_some]
      rw [if_pos trivial, if_neg (by omega), show wrap64 ((pre.length : Int) + 1) = ((pre ++ [(nxt at_ (F - d) : Int)]).length : Int) from by simp; unfold wrap64; omega]
      exact ih k (nxt at_ (F - d)) (pre ++ [(nxt at_ (F - d) : Int)]) (by rw [hw]; simp) hx.1 (by omega) (by omega) (by omega)
    · simp only [wayL] at hw
      rw [if_neg h] at hw
      have hl : W.length = pre.length := by rw [hw]; simp
      simp only [annalslaw14_SkipShort.l0]
      rw [if_neg (by omega), if_pos (by unfold wrap64; omega), most_f (d : Int) (by omega) (by omega)]
      simp only [Option.bind_some, Int.toNat_natCast]
      rw [if_pos hW, awake_f k (by omega)]
      rfl

theorem mod_nat (a : Int) (m : Nat) (M : Int) (hM : (m : Int) = M) (hm : 0 < m) (hm2 : m ≤ 1048577) : ∃ n : Nat, n < m ∧ wrap64 (Int.tmod (IntKind.u64.wrap a) M) = (n : Int) := by
  subst hM
  have h0 : 0 ≤ IntKind.u64.wrap a := by rw [IntKind.wrap_u64]; omega
  obtain ⟨x, hx⟩ := Int.eq_ofNat_of_zero_le h0
  rw [hx, Int.tmod_eq_emod_of_nonneg (by omega)]
  refine ⟨x % m, Nat.mod_lt _ hm, ?_⟩
  have := Nat.mod_lt x hm
  rw [← Int.natCast_emod]
  unfold wrap64
  omega

theorem short_core (F d k : Nat) (hF : F ≤ 1048576) (hd : d ≤ F) (hk : 2100000 < k) :
    ((skip_Way.f k (F : Int) ((F - d : Nat) : Int)).bind fun t156 => (annalslaw14_SkipShort.l0 k (F : Int) (d : Int) t156 (F : Int) t156 (t156.length : Int) 0)) = some true := by
  have hway := way_yes F (F - d) (by omega) k (by omega)
  have hb := wayL_bound F F (F - d) (by omega) (by omega)
  have hl := left_le F (F - d)
  rw [show F - (F - d) = d from by omega] at hl
  have h2 := wayL_length F F (F - d)
  have hloop := short_l0 F d hF hd (wayL F F (F - d)) (by omega) (by omega) F k F [] rfl (by omega) (by omega) (by omega) (by omega)
  rw [hway]
  exact hloop

theorem SkipShort : annalslaw14_SkipShort.Pure := by
  intro a0 a1 _ _
  obtain ⟨F, hF, eF⟩ := mod_nat a0 1048577 1048577 rfl (by omega) (by omega)
  have e1 : IntKind.u64.wrap (wrap64 ((F : Int) + 1)) = ((F + 1 : Nat) : Int) := by
    rw [IntKind.wrap_u64]
    unfold wrap64
    omega
  obtain ⟨d, hd, ed⟩ := mod_nat a1 (F + 1) ((F + 1 : Nat) : Int) rfl (by omega) (by omega)
  have e2 : wrap64 ((F : Int) - (d : Int)) = ((F - d : Nat) : Int) := by unfold wrap64; omega
  obtain ⟨k, hk⟩ : ∃ k : Nat, 2100000 < k := ⟨2100001, by omega⟩
  have h := short_core F d k (by omega) (by omega) hk
  refine ⟨k, ?_⟩
  unfold annalslaw14_SkipShort.f
  rw [eF, e1, ed, e2, if_neg (by omega)]
  exact h

end Go.Proofs.YtbedgjjiinhpkaaDoor.Pure
