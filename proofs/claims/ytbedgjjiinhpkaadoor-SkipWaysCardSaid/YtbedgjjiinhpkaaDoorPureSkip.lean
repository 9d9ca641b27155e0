/-
  Links, ways and bounds on numbers: what skip's functions and the reference's come to.
-/
import Derived.Test.YtbedgjjiinhpkaaDoorFannalslaw14awake
import Derived.Test.YtbedgjjiinhpkaaDoorFskipMost
import Derived.Test.YtbedgjjiinhpkaaDoorFannalsref14Most
import Derived.Test.YtbedgjjiinhpkaaDoorFskipLinks
import Derived.Test.YtbedgjjiinhpkaaDoorFskipWay
import Derived.Test.YtbedgjjiinhpkaaDoorFannalsref14Way
import Derived.Lib.ItoaNum
set_option linter.unusedVariables false
set_option linter.unusedSimpArgs false
namespace Go.Proofs.YtbedgjjiinhpkaaDoor.Pure
open Go.RowKit Go.Proofs.YtbedgjjiinhpkaaDoor.P Go.Proofs.YtbedgjjiinhpkaaDoorW.PrintWords Go.Proofs.YtbedgjjiinhpkaaDoorW.PrintLast Go.Proofs.YtbedgjjiinhpkaaDoorW.PrintMore

theorem equal_l0 (l : List Int) (hl : l.length < 1000000000) : ∀ (d k : Nat) (i : Int), 0 ≤ i → i ≤ l.length → (l.length : Int) - i = d → d < k →
    slices_Equal_int_int.l0 k l l (l.length : Int) i = some true := by
  intro d
  induction d with
  | zero =>
    intro k i h0 h1 hd hk
    obtain ⟨k, rfl⟩ : ∃ m, k = m + 1 := ⟨k - 1, by omega⟩
    simp only [slices_Equal_int_int.l0]
    rw [if_neg (by omega)]
  | succ d ih =>
    intro k i h0 h1 hd hk
    obtain ⟨k, rfl⟩ : ∃ m, k = m + 1 := ⟨k - 1, by omega⟩
    simp only [slices_Equal_int_int.l0]
    rw [if_pos (by omega), if_pos h0, if_pos (by omega), if_pos (by omega), if_pos trivial, show wrap64 (i + 1) = i + 1 from by unfold wrap64; omega]
    exact ih k (i + 1) (by omega) (by omega) (by omega) (by omega)

theorem equal_same (l : List Int) (hl : l.length < 1000000000) (k : Nat) (hk : l.length < k) : slices_Equal_int_int.f k l l = some true := by
  unfold slices_Equal_int_int.f
  rw [if_pos rfl]
  exact equal_l0 l hl l.length k 0 (by omega) (by omega) (by omega) hk

/-! ### Numbers -/
/-- A power of two. -/
def p2 (j : Nat) : Nat := 2 ^ j
theorem p2_pos (j : Nat) : 0 < p2 j := Nat.pow_pos (by decide)
theorem p2_succ (j : Nat) : p2 (j + 1) = 2 * p2 j := by unfold p2; rw [Nat.pow_succ]; omega
theorem p2_mono {i j : Nat} (h : i ≤ j) : p2 i ≤ p2 j := Nat.pow_le_pow_right (by decide) h
theorem p2_dvd {i j : Nat} (h : i ≤ j) : p2 i ∣ p2 j := Nat.pow_dvd_pow 2 h
theorem p2_0 : p2 0 = 1 := rfl
theorem p2_62 : p2 62 = 4611686018427387904 := by decide
theorem p2_63 : p2 63 = 9223372036854775808 := by decide
/-- How many bits at a number's end are 0. -/
def vz (f : Nat) : Nat := Lib.ctz 64 f
/-- How many bits a number has. -/
def bl (d : Nat) : Nat := Lib.bitLen d

theorem vz_odd (f : Nat) (h0 : 0 < f) (h1 : f < 9223372036854775808) : ∃ m, f = p2 (vz f) * (2 * m + 1) := by
  unfold vz Lib.ctz p2
  rw [if_neg (by omega)]
  obtain ⟨m, hm, hk⟩ := Lib.ctzFrom_spec 64 f h0 (by omega)
  exact ⟨m, hm⟩

theorem vz_spec (f : Nat) (h0 : 0 < f) (h1 : f < 9223372036854775808) : vz f < 63 ∧ p2 (vz f) ≤ f := by
  obtain ⟨m, hm⟩ := vz_odd f h0 h1
  have hle : p2 (vz f) ≤ f := by
    have : p2 (vz f) ≤ p2 (vz f) * (2 * m + 1) := Nat.le_mul_of_pos_right _ (by omega)
    omega
  refine ⟨?_, hle⟩
  apply Nat.lt_of_not_le
  intro h
  have := p2_mono h
  rw [p2_63] at this
  omega

theorem bl_spec (d : Nat) (h0 : 0 < d) (h1 : d < 9223372036854775808) : 1 ≤ bl d ∧ bl d ≤ 63 ∧ p2 (bl d - 1) ≤ d ∧ d < p2 (bl d) := by
  unfold bl Lib.bitLen
  obtain ⟨a, b, c⟩ := Lib.bitLenAux_bounds 64 d (by omega) (by omega)
  refine ⟨a, ?_, b, c⟩
  apply Nat.le_of_not_lt
  intro h
  have := p2_mono (show 63 ≤ Lib.bitLenAux 64 d - 1 by omega)
  rw [p2_63] at this
  unfold p2 at this
  omega

theorem bl_zero : bl 0 = 0 := by decide

theorem bl_mono {a b : Nat} (h : a ≤ b) (hb : b < 9223372036854775808) : bl a ≤ bl b := by
  by_cases ha : a = 0
  · rw [ha, bl_zero]; omega
  · have h1 := bl_spec a (by omega) (by omega)
    have h2 := bl_spec b (by omega) hb
    apply Nat.le_of_not_lt
    intro hlt
    have := p2_mono (show bl b ≤ bl a - 1 by omega)
    omega

theorem bl_lt {a j : Nat} (h : a < p2 j) (hj : j ≤ 63) : bl a ≤ j := by
  by_cases ha : a = 0
  · rw [ha, bl_zero]; omega
  · have h2 := p2_mono hj
    rw [p2_63] at h2
    have h1 := bl_spec a (by omega) (by omega)
    apply Nat.le_of_not_lt
    intro hlt
    have := p2_mono (show j ≤ bl a - 1 by omega)
    omega

theorem vz_ge {f j : Nat} (h0 : 0 < f) (h1 : f < 9223372036854775808) (hd : p2 j ∣ f) : j ≤ vz f := by
  obtain ⟨m, hm⟩ := vz_odd f h0 h1
  apply Nat.le_of_not_lt
  intro hlt
  have h2 : p2 (vz f + 1) ∣ f := Nat.dvd_trans (p2_dvd hlt) hd
  rw [p2_succ, Nat.mul_comm] at h2
  generalize vz f = v at *
  rw [hm] at h2
  have h3 := Nat.dvd_of_mul_dvd_mul_left (p2_pos v) h2
  omega

theorem vz_dvd {f j : Nat} (h0 : 0 < f) (h1 : f < 9223372036854775808) (hj : j ≤ vz f) : p2 j ∣ f := by
  obtain ⟨m, hm⟩ := vz_odd f h0 h1
  have h2 := p2_dvd hj
  generalize vz f = v at *
  rw [hm]
  exact Nat.dvd_trans h2 (Nat.dvd_mul_right _ _)

theorem tz_f (f : Nat) (h1 : f < 9223372036854775808) : bits_TrailingZeros.f (IntKind.u64.wrap (f : Int)) = some (vz f : Int) := by
  have e : IntKind.u64.wrap (f : Int) = (f : Int) := by rw [IntKind.wrap_u64]; omega
  rw [e]
  unfold bits_TrailingZeros.f
  rw [if_pos (by omega), if_pos (by omega), Int.toNat_natCast]
  rfl

theorem len_f (d : Nat) (h1 : d < 9223372036854775808) : bits_Len.f (IntKind.u64.wrap (d : Int)) = some (bl d : Int) := by
  have e : IntKind.u64.wrap (d : Int) = (d : Int) := by rw [IntKind.wrap_u64]; omega
  rw [e]
  unfold bits_Len.f
  rw [if_pos (by omega), if_pos (by omega), Int.toNat_natCast]
  rfl

theorem shl_one (j : Nat) (hj : j ≤ 62) : shl .i64 1 (j : Int) = (p2 j : Int) := by
  unfold shl
  rw [Int.toNat_natCast, Nat.min_eq_left (by simp [IntKind.bits]; omega), Int.one_mul]
  have h2 := p2_mono hj
  rw [p2_62] at h2
  have e : (2 : Int) ^ j = (p2 j : Int) := by unfold p2; rw [Int.natCast_pow]; rfl
  rw [e]
  generalize p2 j = x at *
  exact IntWalk.i64_in _ ⟨by omega, by omega⟩

/-! ### Links -/
/-- The links of an epoch. -/
def links (f : Nat) : List Int := (List.range (vz f + 1)).map fun k => (f : Int) - (p2 k : Int)

theorem links_snoc (f i : Nat) : (List.range (i + 1)).map (fun k => (f : Int) - (p2 k : Int)) = (List.range i).map (fun k => (f : Int) - (p2 k : Int)) ++ [(f : Int) - (p2 i : Int)] := by
  rw [List.range_succ, List.map_append]; rfl

theorem pow_le_of {f j : Nat} (h0 : 0 < f) (h1 : f < 9223372036854775808) (hj : j ≤ vz f) : p2 j ≤ f :=
  Nat.le_of_dvd h0 (vz_dvd h0 h1 hj)

theorem links_l0 (f : Nat) (h0 : 0 < f) (h1 : f < 9223372036854775808) : ∀ (d k i : Nat), i ≤ vz f + 1 → vz f + 1 - i = d → d < k →
    skip_Links.l0 k (f : Int) ((List.range i).map fun k => (f : Int) - (p2 k : Int)) ((vz f + 1 : Nat) : Int) (i : Int) = some (links f) := by
  have hv := (vz_spec f h0 h1).1
  intro d
  induction d with
  | zero =>
    intro k i hi hd hk
    obtain ⟨k, rfl⟩ : ∃ m, k = m + 1 := ⟨k - 1, by omega⟩
    simp only [skip_Links.l0]
    rw [if_neg (by omega), show i = vz f + 1 from by omega]
    rfl
  | succ d ih =>
    intro k i hi hd hk
    obtain ⟨k, rfl⟩ : ∃ m, k = m + 1 := ⟨k - 1, by omega⟩
    have hp := pow_le_of h0 h1 (show i ≤ vz f by omega)
    simp only [skip_Links.l0]
    rw [if_pos (by omega), if_pos (by omega), if_pos (by simp; omega), shl_one i (by omega)]
    have e1 : wrap64 ((f : Int) - (p2 i : Int)) = (f : Int) - (p2 i : Int) := by unfold wrap64; omega
    have e2 : wrap64 ((i : Int) + 1) = ((i + 1 : Nat) : Int) := by unfold wrap64; omega
    rw [e1, e2, ← links_snoc]
    exact ih k (i + 1) (by omega) (by omega) (by omega)

theorem links_f (f : Nat) (h0 : 0 < f) (h1 : f < 9223372036854775808) (k : Nat) (hk : 70 < k) : skip_Links.f k (f : Int) = some (links f) := by
  have hv := (vz_spec f h0 h1).1
  unfold skip_Links.f
  rw [if_pos (by omega), tz_f f h1]
  simp only [Option.bind_some]
  rw [show wrap64 ((vz f : Int) + 1) = ((vz f + 1 : Nat) : Int) from by unfold wrap64; omega]
  exact links_l0 f h0 h1 (vz f + 1) k 0 (by omega) (by omega) (by omega)

theorem links_neg (f : Int) (h : f ≤ 0) (k : Nat) : skip_Links.f k f = some [] := by
  unfold skip_Links.f
  rw [if_neg (by omega)]

theorem rlinks_l0 (f : Nat) (h0 : 0 < f) (h1 : f < 9223372036854775808) : ∀ (d k i : Nat), i ≤ vz f + 1 → vz f + 1 - i = d → d < k →
    annalsref14_Links.l0 k (f : Int) ((List.range i).map fun k => (f : Int) - (p2 k : Int)) (wrap64 (p2 i : Int)) = some (links f) := by
  obtain ⟨hv, hle⟩ := vz_spec f h0 h1
  intro d
  induction d with
  | zero =>
    intro k i hi hd hk
    obtain ⟨k, rfl⟩ : ∃ m, k = m + 1 := ⟨k - 1, by omega⟩
    obtain rfl : i = vz f + 1 := by omega
    simp only [annalsref14_Links.l0]
    by_cases h62 : vz f = 62
    · have e : wrap64 (p2 (vz f + 1) : Int) = -9223372036854775808 := by rw [h62, p2_63]; unfold wrap64; omega
      rw [e, if_neg (by decide)]
      rfl
    · have h2 := p2_mono (show vz f + 1 ≤ 62 by omega)
      rw [p2_62] at h2
      have e : wrap64 (p2 (vz f + 1) : Int) = (p2 (vz f + 1) : Int) := by unfold wrap64; omega
      have hp : 0 < p2 (vz f + 1) := p2_pos _
      rw [e, if_pos (by omega)]
      by_cases hlt : p2 (vz f + 1) ≤ f
      · rw [if_pos (by omega), if_neg (by omega), if_neg]
        · rfl
        · intro h
          have h3 : f % p2 (vz f + 1) = 0 := by
            have := h
            rw [Int.tmod_eq_emod_of_nonneg (by omega)] at this
            omega
          have := vz_ge h0 h1 (Nat.dvd_of_mod_eq_zero h3)
          omega
      · rw [if_neg (by omega)]
        rfl
  | succ d ih =>
    intro k i hi hd hk
    obtain ⟨k, rfl⟩ : ∃ m, k = m + 1 := ⟨k - 1, by omega⟩
    have hp := pow_le_of h0 h1 (show i ≤ vz f by omega)
    have hp0 : 0 < p2 i := p2_pos _
    have e : wrap64 (p2 i : Int) = (p2 i : Int) := by unfold wrap64; omega
    simp only [annalsref14_Links.l0]
    rw [e, if_pos (by omega), if_pos (by omega), if_neg (by omega), if_pos, if_pos (by simp; omega)]
    · have e1 : wrap64 ((f : Int) - (p2 i : Int)) = (f : Int) - (p2 i : Int) := by unfold wrap64; omega
      have e2 : (2 : Int) * (p2 i : Int) = (p2 (i + 1) : Int) := by rw [p2_succ]; omega
      rw [e1, e2, ← links_snoc]
      exact ih k (i + 1) (by omega) (by omega) (by omega)
    · rw [Int.tmod_eq_emod_of_nonneg (by omega)]
      have := Nat.mod_eq_zero_of_dvd (vz_dvd h0 h1 (show i ≤ vz f by omega))
      omega

theorem rlinks_f (f : Nat) (h0 : 0 < f) (h1 : f < 9223372036854775808) (k : Nat) (hk : 70 < k) : annalsref14_Links.f k (f : Int) = some (links f) := by
  have hv := (vz_spec f h0 h1).1
  unfold annalsref14_Links.f
  have := rlinks_l0 f h0 h1 (vz f + 1) k 0 (by omega) (by omega) (by omega)
  rw [p2_0, show wrap64 ((1 : Nat) : Int) = 1 from by unfold wrap64; omega] at this
  exact this

theorem rlinks_neg (f : Int) (h : f ≤ 0) (k : Nat) (hk : 0 < k) : annalsref14_Links.f k f = some [] := by
  obtain ⟨k, rfl⟩ : ∃ m, k = m + 1 := ⟨k - 1, by omega⟩
  unfold annalsref14_Links.f
  simp only [annalsref14_Links.l0]
  rw [if_pos (by omega), if_neg (by omega)]

/-! ### The next one -/
def hop (f t : Nat) : Nat := min (vz f) (bl (f - t) - 1)
def nxt (f t : Nat) : Nat := f - p2 (hop f t)

theorem hop_le (f t : Nat) (h : t < f) (h1 : f < 9223372036854775808) : p2 (hop f t) ≤ f - t ∧ hop f t ≤ 62 := by
  have hb := bl_spec (f - t) (by omega) (by omega)
  have := p2_mono (show hop f t ≤ bl (f - t) - 1 from Nat.min_le_right _ _)
  have h2 : hop f t ≤ bl (f - t) - 1 := Nat.min_le_right _ _
  exact ⟨by omega, by omega⟩

theorem nxt_lt (f t : Nat) (h : t < f) (h1 : f < 9223372036854775808) : t ≤ nxt f t ∧ nxt f t < f := by
  have := hop_le f t h h1
  have hp : 0 < p2 (hop f t) := p2_pos _
  unfold nxt
  omega

theorem step_no (f t : Int) (h : t < 0 ∨ f ≤ t) (k : Nat) (hk : 0 < k) : skip_step.f k f t = some (-1) := by
  obtain ⟨k, rfl⟩ : ∃ m, k = m + 1 := ⟨k - 1, by omega⟩
  unfold skip_step.f
  by_cases ht : t < 0
  · rw [if_pos ht]
    simp only [skip_step.j0]
    rw [if_pos trivial]
  · rw [if_neg ht]
    simp only [skip_step.j0]
    rw [if_pos (by simp; omega)]

theorem step_yes (f t : Nat) (h : t < f) (h1 : f < 9223372036854775808) (k : Nat) (hk : 0 < k) : skip_step.f k (f : Int) (t : Int) = some (hop f t : Int) := by
  obtain ⟨k, rfl⟩ : ∃ m, k = m + 1 := ⟨k - 1, by omega⟩
  have hb := bl_spec (f - t) (by omega) (by omega)
  have hv := (vz_spec f (by omega) h1).1
  unfold skip_step.f
  rw [if_neg (by omega)]
  simp only [skip_step.j0]
  rw [if_neg (by simp; omega), tz_f f h1]
  have e : wrap64 ((f : Int) - (t : Int)) = ((f - t : Nat) : Int) := by unfold wrap64; omega
  simp only [Option.bind_some]
  rw [e, len_f (f - t) (by omega)]
  simp only [Option.bind_some]
  congr 1
  unfold hop mn wrap64
  by_cases hc : (vz f : Int) ≤ (bl (f - t) : Int) - 1
  · rw [Nat.min_eq_left (by omega)]
    split <;> omega
  · rw [Nat.min_eq_right (by omega)]
    split <;> omega

theorem next_no (f t : Int) (h : t < 0 ∨ f ≤ t) (k : Nat) (hk : 0 < k) : skip_Next.f k f t = some f := by
  unfold skip_Next.f
  rw [step_no f t h k hk]
  rfl

theorem next_yes (f t : Nat) (h : t < f) (h1 : f < 9223372036854775808) (k : Nat) (hk : 0 < k) : skip_Next.f k (f : Int) (t : Int) = some (nxt f t : Int) := by
  have hh := hop_le f t h h1
  unfold skip_Next.f
  rw [step_yes f t h h1 k hk]
  simp only [Option.bind_some]
  rw [if_neg (by omega), if_pos (by omega), shl_one _ hh.2]
  congr 1
  unfold nxt wrap64
  omega

theorem rd_links (f : Nat) (i : Nat) (h : i < vz f + 1) : rd (links f) (i : Int) = (f : Int) - (p2 i : Int) := by
  unfold rd links
  rw [Int.toNat_natCast, List.getD_eq_getElem?_getD, List.getElem?_map, List.getElem?_range h]
  rfl

theorem links_length (f : Nat) : (links f).length = vz f + 1 := by unfold links; simp

/-- Where the reference's loop stands behind i links. -/
def cur (f t : Nat) : Nat → Nat
  | 0 => f
  | i + 1 => if t < f then f - p2 (min i (bl (f - t) - 1)) else f

theorem cur_pos {f t : Nat} (h : t < f) (i : Nat) : cur f t (i + 1) = f - p2 (min i (bl (f - t) - 1)) := if_pos h
theorem cur_neg {f t : Nat} (h : ¬ t < f) (i : Nat) : cur f t i = f := by
  cases i with
  | zero => rfl
  | succ i => exact if_neg h

theorem rnext_l0 (f t : Nat) (h0 : 0 < f) (h1 : f < 9223372036854775808) : ∀ (d k i : Nat), i ≤ vz f + 1 → vz f + 1 - i = d → d < k →
    annalsref14_Next.l0 k (t : Int) (cur f t i : Int) (links f) ((links f).length : Int) (i : Int) = some (cur f t (vz f + 1) : Int) := by
  have hv := (vz_spec f h0 h1).1
  intro d
  induction d with
  | zero =>
    intro k i hi hd hk
    obtain ⟨k, rfl⟩ : ∃ m, k = m + 1 := ⟨k - 1, by omega⟩
    simp only [annalsref14_Next.l0, links_length]
    rw [if_neg (by omega), show i = vz f + 1 from by omega]
  | succ d ih =>
    intro k i hi hd hk
    obtain ⟨k, rfl⟩ : ∃ m, k = m + 1 := ⟨k - 1, by omega⟩
    have hp := pow_le_of h0 h1 (show i ≤ vz f by omega)
    have e2 : wrap64 ((i : Int) + 1) = ((i + 1 : Nat) : Int) := by unfold wrap64; omega
    simp only [annalsref14_Next.l0]
    rw [e2, rd_links f i (by omega), links_length]
    rw [if_pos (show (i : Int) < ((vz f + 1 : Nat) : Int) by omega), if_pos (show (0 : Int) ≤ (i : Int) by omega), if_pos (show (i : Int) < ((vz f + 1 : Nat) : Int) by omega)]
    have ih' := ih k (i + 1) (by omega) (by omega) (by omega)
    rw [links_length] at ih'
    by_cases hc : t + p2 i ≤ f
    · rw [if_pos (show (f : Int) - (p2 i : Int) ≥ (t : Int) by omega)]
      have hp0 : 0 < p2 i := p2_pos _
      have hb := bl_spec (f - t) (by omega) (by omega)
      have hi2 : i ≤ bl (f - t) - 1 := by
        apply Nat.le_of_not_lt
        intro hlt
        have := p2_mono (show bl (f - t) ≤ i by omega)
        omega
      have e3 : cur f t (i + 1) = f - p2 i := by
        rw [cur_pos (by omega), Nat.min_eq_left hi2]
      rw [e3] at ih'
      rw [show (f : Int) - (p2 i : Int) = ((f - p2 i : Nat) : Int) from by omega]
      exact ih'
    · rw [if_neg (show ¬ (f : Int) - (p2 i : Int) ≥ (t : Int) by omega)]
      have e3 : cur f t (i + 1) = cur f t i := by
        by_cases htf : t < f
        · have hb := bl_spec (f - t) (by omega) (by omega)
          have hi2 : bl (f - t) - 1 < i := by
            apply Nat.lt_of_not_le
            intro hle
            have := p2_mono hle
            omega
          cases i with
          | zero => omega
          | succ i =>
            have m1 : min (i + 1) (bl (f - t) - 1) = bl (f - t) - 1 := Nat.min_eq_right (Nat.le_of_lt hi2)
            have m2 : min i (bl (f - t) - 1) = bl (f - t) - 1 := Nat.min_eq_right (Nat.le_of_lt_succ hi2)
            rw [cur_pos htf, cur_pos htf, m1, m2]
        · rw [cur_neg htf, cur_neg htf]
      rw [e3] at ih'
      exact ih'

theorem rnext_no (f t : Int) (h : t < 0 ∨ f ≤ t) (hf : f < 9223372036854775808) (k : Nat) (hk : 70 < k) : annalsref14_Next.f k f t = some f := by
  unfold annalsref14_Next.f
  by_cases ht : t < 0
  · rw [if_pos ht]
  · rw [if_neg ht]
    by_cases hf0 : f ≤ 0
    · rw [rlinks_neg f hf0 k (by omega)]
      obtain ⟨k, rfl⟩ : ∃ m, k = m + 1 := ⟨k - 1, by omega⟩
      simp [annalsref14_Next.l0]
    · obtain ⟨n, rfl⟩ := Int.eq_ofNat_of_zero_le (show 0 ≤ f by omega)
      obtain ⟨t, rfl⟩ := Int.eq_ofNat_of_zero_le (show 0 ≤ t by omega)
      rw [rlinks_f n (by omega) (by omega) k hk]
      simp only [Option.bind_some]
      have hv := (vz_spec n (by omega) (by omega)).1
      have := rnext_l0 n t (by omega) (by omega) (vz n + 1) k 0 (by omega) (by omega) (by omega)
      have e : cur n t (vz n + 1) = n := cur_neg (by omega) _
      rw [e] at this
      exact this

theorem rnext_yes (f t : Nat) (h : t < f) (h1 : f < 9223372036854775808) (k : Nat) (hk : 70 < k) : annalsref14_Next.f k (f : Int) (t : Int) = some (nxt f t : Int) := by
  unfold annalsref14_Next.f
  rw [if_neg (by omega), rlinks_f f (by omega) h1 k hk]
  simp only [Option.bind_some]
  have hv := (vz_spec f (by omega) h1).1
  have := rnext_l0 f t (by omega) h1 (vz f + 1) k 0 (by omega) (by omega) (by omega)
  have e : cur f t (vz f + 1) = nxt f t := cur_pos h _
  rw [e] at this
  exact this

/-! ### Ways -/
def wayL : Nat → Nat → Nat → List Int
  | 0, _, _ => []
  | n + 1, f, t => if t < f then (nxt f t : Int) :: wayL n (nxt f t) t else []

theorem way_l0 (t : Nat) : ∀ (n k f : Nat) (acc : List Int), f < 9223372036854775808 → f - t ≤ n → n + 1 < k → acc.length + n < 10000000 →
    skip_Way.l0 k (f : Int) (t : Int) acc = some (acc ++ wayL n f t) := by
  intro n
  induction n with
  | zero =>
    intro k f acc h1 hn hk ha
    obtain ⟨k, rfl⟩ : ∃ m, k = m + 1 := ⟨k - 1, by omega⟩
    simp only [skip_Way.l0, wayL]
    rw [step_no _ _ (by omega) k (by omega)]
    simp
  | succ n ih =>
    intro k f acc h1 hn hk ha
    obtain ⟨k, rfl⟩ : ∃ m, k = m + 1 := ⟨k - 1, by omega⟩
    simp only [skip_Way.l0, wayL]
    by_cases htf : t < f
    · have hx := nxt_lt f t htf h1
      rw [step_yes f t htf h1 k (by omega), if_pos htf]
      simp only [Option.bind_some]
      rw [if_pos (by omega), next_yes f t htf h1 k (by omega)]
      simp only [Option.bind_some]
      rw [if_pos (by omega), ih k (nxt f t) (acc ++ [(nxt f t : Int)]) (by omega) (by omega) (by omega) (by simp; omega)]
      simp
    · rw [step_no _ _ (by omega) k (by omega), if_neg htf]
      simp

theorem way_no (f t : Int) (h : t < 0 ∨ f ≤ t) (k : Nat) (hk : 1 < k) : skip_Way.f k f t = some [] := by
  unfold skip_Way.f
  split
  · rfl
  · obtain ⟨k, rfl⟩ : ∃ m, k = m + 1 := ⟨k - 1, by omega⟩
    simp only [skip_Way.l0]
    rw [step_no f t h k (by omega)]
    simp

theorem way_yes (f t : Nat) (h1 : f ≤ 1048576) (k : Nat) (hk : 1048580 < k) : skip_Way.f k (f : Int) (t : Int) = some (wayL f f t) := by
  unfold skip_Way.f
  rw [if_neg (by omega)]
  exact way_l0 t f k f [] (by omega) (by omega) (by omega) (by simp; omega)

theorem rway_l0 (t : Nat) : ∀ (n k f : Nat) (acc : List Int), f < 9223372036854775808 → f - t ≤ n → n + 80 < k → acc.length + n < 10000000 →
    annalsref14_Way.l0 k (f : Int) (t : Int) acc = some (acc ++ wayL n f t) := by
  intro n
  induction n with
  | zero =>
    intro k f acc h1 hn hk ha
    obtain ⟨k, rfl⟩ : ∃ m, k = m + 1 := ⟨k - 1, by omega⟩
    simp only [annalsref14_Way.l0, wayL]
    rw [if_neg (by omega)]
    simp
  | succ n ih =>
    intro k f acc h1 hn hk ha
    obtain ⟨k, rfl⟩ : ∃ m, k = m + 1 := ⟨k - 1, by omega⟩
    simp only [annalsref14_Way.l0, wayL]
    by_cases htf : t < f
    · have hx := nxt_lt f t htf h1
      rw [if_pos (by omega), rnext_yes f t htf h1 k (by omega), if_pos htf]
      simp only [Option.bind_some]
      rw [if_pos (by omega), ih k (nxt f t) (acc ++ [(nxt f t : Int)]) (by omega) (by omega) (by omega) (by simp; omega)]
      simp
    · rw [if_neg (by omega), if_neg htf]
      simp

theorem rway_no (f t : Int) (h : t < 0 ∨ f ≤ t) (k : Nat) (hk : 1 < k) : annalsref14_Way.f k f t = some [] := by
  obtain ⟨k, rfl⟩ : ∃ m, k = m + 1 := ⟨k - 1, by omega⟩
  unfold annalsref14_Way.f
  by_cases ht : t < 0
  · rw [if_pos ht]
    simp only [annalsref14_Way.j0]
    rw [if_pos trivial]
  · rw [if_neg ht, if_pos (by omega)]
    simp only [annalsref14_Way.j0]
    rw [if_pos trivial]

theorem rway_far (f t : Int) (h : 1048576 < f) (k : Nat) (hk : 1 < k) : annalsref14_Way.f k f t = some [] := by
  obtain ⟨k, rfl⟩ : ∃ m, k = m + 1 := ⟨k - 1, by omega⟩
  unfold annalsref14_Way.f
  simp only [annalsref14_Way.j0]
  split
  · rw [if_pos trivial]
  · split
    · rw [if_pos trivial]
    · rw [if_pos (by simp; omega)]

theorem rway_yes (f t : Nat) (ht : t < f) (h1 : f ≤ 1048576) (k : Nat) (hk : 1048700 < k) : annalsref14_Way.f k (f : Int) (t : Int) = some (wayL f f t) := by
  obtain ⟨k, rfl⟩ : ∃ m, k = m + 1 := ⟨k - 1, by omega⟩
  unfold annalsref14_Way.f
  rw [if_neg (by omega), if_neg (by omega)]
  simp only [annalsref14_Way.j0]
  rw [if_neg (by simp; omega)]
  exact rway_l0 t f k f [] (by omega) (by omega) (by omega) (by simp; omega)

theorem wayL_length : ∀ (n f t : Nat), (wayL n f t).length ≤ n := by
  intro n
  induction n with
  | zero => intro f t; simp [wayL]
  | succ n ih =>
    intro f t
    simp only [wayL]
    split
    · have := ih (nxt f t) t
      simp
      omega
    · simp

/-! ### The bound -/
theorem most_f (d : Int) (hd : d < 9223372036854775808) (hd0 : -9223372036854775808 ≤ d) : skip_Most.f d = some (2 * (bl d.toNat : Int)) := by
  unfold skip_Most.f
  have e : mx d 0 = (d.toNat : Int) := by unfold mx; split <;> omega
  rw [e, len_f d.toNat (by omega)]
  simp only [Option.bind_some]
  congr 1
  have : bl d.toNat ≤ 63 := bl_lt (j := 63) (by rw [p2_63]; omega) (by omega)
  unfold wrap64
  omega

theorem bl_half (d : Nat) (h0 : 0 < d) (h1 : d < 9223372036854775808) : bl d = 1 + bl (d / 2) := Lib.bitLen_half d (by omega) (by omega)

theorem rmost_l0 : ∀ (n k d : Nat) (a : Int), 0 < d → d < 9223372036854775808 → bl d ≤ n → n < k → 0 ≤ a → a + 2 * n < 1000 →
    annalsref14_Most.l0 k (d : Int) a = some (a + 2 * ((bl d : Int) - 1)) := by
  intro n
  induction n with
  | zero =>
    intro k d a h0 h1 hb hk ha ha2
    have := bl_spec d h0 h1
    omega
  | succ n ih =>
    intro k d a h0 h1 hb hk ha ha2
    obtain ⟨k, rfl⟩ : ∃ m, k = m + 1 := ⟨k - 1, by omega⟩
    simp only [annalsref14_Most.l0]
    by_cases h : 1 < d
    · rw [if_pos (by omega)]
      have e1 : wrap64 (Int.tdiv (d : Int) 2) = ((d / 2 : Nat) : Int) := by
        rw [Int.tdiv_eq_ediv_of_nonneg (by omega)]
        unfold wrap64
        omega
      have e2 : wrap64 (a + 2) = a + 2 := by unfold wrap64; omega
      have hh := bl_half d h0 h1
      rw [e1, e2, ih k (d / 2) (a + 2) (by omega) (by omega) (by omega) (by omega) (by omega) (by omega)]
      congr 1
      omega
    · rw [if_neg (by omega)]
      obtain rfl : d = 1 := by omega
      have : bl 1 = 1 := by decide
      rw [this]
      congr 1
      omega

theorem rmost_f (d : Int) (hd : d < 9223372036854775808) (k : Nat) (hk : 70 < k) : annalsref14_Most.f k d = some (2 * (bl d.toNat : Int)) := by
  unfold annalsref14_Most.f
  by_cases h : d < 1
  · rw [if_pos h, show d.toNat = 0 from by omega, bl_zero]
    rfl
  · rw [if_neg h]
    obtain ⟨n, rfl⟩ := Int.eq_ofNat_of_zero_le (show 0 ≤ d by omega)
    have hb := bl_spec n (by omega) (by omega)
    rw [rmost_l0 63 k n 2 (by omega) (by omega) (by omega) (by omega) (by omega) (by omega), Int.toNat_natCast]
    congr 1
    omega

theorem awake_f (k : Nat) (hk : 1048700 < k) : annalslaw14_awake.f k = some true := by
  unfold annalslaw14_awake.f
  have h1 := way_yes 7 0 (by omega) k (by omega)
  have h2 := next_yes 6 0 (by omega) (by omega) k (by omega)
  have e1 : wayL 7 7 0 = [6, 4, 0] := by decide +kernel
  have e2 : nxt 6 0 = 4 := by decide +kernel
  rw [e1] at h1
  rw [e2] at h2
  rw [show (7 : Int) = ((7 : Nat) : Int) from rfl, show (0 : Int) = ((0 : Nat) : Int) from rfl, show (6 : Int) = ((6 : Nat) : Int) from rfl, h1]
  simp only [Option.bind_some]
  rw [show (((6 : Nat) : Int) :: 4 :: [((0 : Nat) : Int)]) = [6, 4, 0] from rfl]
  rw [equal_same [6, 4, 0] (by simp) k (by simp; omega), h2]
  rfl

end Go.Proofs.YtbedgjjiinhpkaaDoor.Pure
