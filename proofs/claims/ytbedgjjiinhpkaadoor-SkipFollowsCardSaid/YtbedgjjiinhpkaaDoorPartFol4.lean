/- Lemmas of this claim, part 4. -/
import Derived.Test.YtbedgjjiinhpkaaDoorPartFol3
import Derived.Test.YtbedgjjiinhpkaaDoorPartFol2
import Derived.Lib.ItoaNum
import Derived.WalkSpells
import Derived.WalkLawsBesides
import Derived.Deep.RegionHeld3
import Derived.IntWalk
section
set_option linter.unusedVariables false
set_option linter.unusedSimpArgs false
namespace Go.Proofs.YtbedgjjiinhpkaaDoor.Pure
open Go.RowKit Go.Proofs.YtbedgjjiinhpkaaDoor.P Go.Proofs.YtbedgjjiinhpkaaDoorW.PrintWords Go.Proofs.YtbedgjjiinhpkaaDoorW.PrintLast Go.Proofs.YtbedgjjiinhpkaaDoorW.PrintMore
theorem equal_l0 (l : List Int) (hl : l.length < 1000000000) : ∀ (d k : Nat) (i : Int), 0 ≤ i → i ≤ l.length → (l.length : Int) - i = d → d < k →
    slices_Equal_int_int.l0 k l l (l.length : Int) i = some true := by
  intro d
  induction d with
  | zero =>
    intro k i h0 h1 hd hk
    obtain ⟨k, rfl⟩ : ∃ m, k = m + 1 := ⟨k - 1, by omega⟩
    simp only [slices_Equal_int_int.l0]
    rw [if_neg (by omega)]
  | succ d ih =>
    intro k i h0 h1 hd hk
    obtain ⟨k, rfl⟩ : ∃ m, k = m + 1 := ⟨k - 1, by omega⟩
    simp only [slices_Equal_int_int.l0]
    rw [if_pos (by omega), if_pos h0, if_pos (by omega), if_pos (by omega), if_pos trivial, show wrap64 (i + 1) = i + 1 from by unfold wrap64; omega]
    exact ih k (i + 1) (by omega) (by omega) (by omega) (by omega)
theorem equal_same (l : List Int) (hl : l.length < 1000000000) (k : Nat) (hk : l.length < k) : slices_Equal_int_int.f k l l = some true := by
  unfold slices_Equal_int_int.f
  rw [if_pos rfl]
  exact equal_l0 l hl l.length k 0 (by omega) (by omega) (by omega) hk
def p2 (j : Nat) : Nat := 2 ^ j
theorem p2_pos (j : Nat) : 0 < p2 j := Nat.pow_pos (by decide)
theorem p2_succ (j : Nat) : p2 (j + 1) = 2 * p2 j := by unfold p2; rw [Nat.pow_succ]; omega
theorem p2_mono {i j : Nat} (h : i ≤ j) : p2 i ≤ p2 j := Nat.pow_le_pow_right (by decide) h
theorem p2_dvd {i j : Nat} (h : i ≤ j) : p2 i ∣ p2 j := Nat.pow_dvd_pow 2 h
theorem p2_0 : p2 0 = 1 := rfl
theorem p2_62 : p2 62 = 4611686018427387904 := by decide
theorem p2_63 : p2 63 = 9223372036854775808 := by decide
def vz (f : Nat) : Nat := Lib.ctz 64 f
def bl (d : Nat) : Nat := Lib.bitLen d
theorem vz_odd (f : Nat) (h0 : 0 < f) (h1 : f < 9223372036854775808) : ∃ m, f = p2 (vz f) * (2 * m + 1) := by
  unfold vz Lib.ctz p2
  rw [if_neg (by omega)]
  obtain ⟨m, hm, hk⟩ := Lib.ctzFrom_spec 64 f h0 (by omega)
  exact ⟨m, hm⟩
theorem vz_spec (f : Nat) (h0 : 0 < f) (h1 : f < 9223372036854775808) : vz f < 63 ∧ p2 (vz f) ≤ f := by
  obtain ⟨m, hm⟩ := vz_odd f h0 h1
  have hle : p2 (vz f) ≤ f := by
    have : p2 (vz f) ≤ p2 (vz f) * (2 * m + 1) := Nat.le_mul_of_pos_right _ (by omega)
    omega
  refine ⟨?_, hle⟩
  apply Nat.lt_of_not_le
  intro h
  have := p2_mono h
  rw [p2_63] at this
  omega
theorem bl_spec (d : Nat) (h0 : 0 < d) (h1 : d < 9223372036854775808) : 1 ≤ bl d ∧ bl d ≤ 63 ∧ p2 (bl d - 1) ≤ d ∧ d < p2 (bl d) := by
  unfold bl Lib.bitLen
  obtain ⟨a, b, c⟩ := Lib.bitLenAux_bounds 64 d (by omega) (by omega)
  refine ⟨a, ?_, b, c⟩
  apply Nat.le_of_not_lt
  intro h
  have := p2_mono (show 63 ≤ Lib.bitLenAux 64 d - 1 by omega)
  rw [p2_63] at this
  unfold p2 at this
  omega
theorem bl_zero : bl 0 = 0 := by decide
theorem vz_ge {f j : Nat} (h0 : 0 < f) (h1 : f < 9223372036854775808) (hd : p2 j ∣ f) : j ≤ vz f := by
  obtain ⟨m, hm⟩ := vz_odd f h0 h1
  apply Nat.le_of_not_lt
  intro hlt
  have h2 : p2 (vz f + 1) ∣ f := Nat.dvd_trans (p2_dvd hlt) hd
  rw [p2_succ, Nat.mul_comm] at h2
  generalize vz f = v at *
  rw [hm] at h2
  have h3 := Nat.dvd_of_mul_dvd_mul_left (p2_pos v) h2
  omega
theorem vz_dvd {f j : Nat} (h0 : 0 < f) (h1 : f < 9223372036854775808) (hj : j ≤ vz f) : p2 j ∣ f := by
  obtain ⟨m, hm⟩ := vz_odd f h0 h1
  have h2 := p2_dvd hj
  generalize vz f = v at *
  rw [hm]
  exact Nat.dvd_trans h2 (Nat.dvd_mul_right _ _)
theorem tz_f (f : Nat) (h1 : f < 9223372036854775808) : bits_TrailingZeros.f (IntKind.u64.wrap (f : Int)) = some (vz f : Int) := by
  have e : IntKind.u64.wrap (f : Int) = (f : Int) := by rw [IntKind.wrap_u64]; omega
  rw [e]
  unfold bits_TrailingZeros.f
  rw [if_pos (by omega), if_pos (by omega), Int.toNat_natCast]
  rfl
theorem len_f (d : Nat) (h1 : d < 9223372036854775808) : bits_Len.f (IntKind.u64.wrap (d : Int)) = some (bl d : Int) := by
  have e : IntKind.u64.wrap (d : Int) = (d : Int) := by rw [IntKind.wrap_u64]; omega
  rw [e]
  unfold bits_Len.f
  rw [if_pos (by omega), if_pos (by omega), Int.toNat_natCast]
  rfl
theorem shl_one (j : Nat) (hj : j ≤ 62) : shl .i64 1 (j : Int) = (p2 j : Int) := by
  unfold shl
  rw [Int.toNat_natCast, Nat.min_eq_left (by simp [IntKind.bits]; omega), Int.one_mul]
  have h2 := p2_mono hj
  rw [p2_62] at h2
  have e : (2 : Int) ^ j = (p2 j : Int) := by unfold p2; rw [Int.natCast_pow]; rfl
  rw [e]
  generalize p2 j = x at *
  exact IntWalk.i64_in _ ⟨by omega, by omega⟩
def links (f : Nat) : List Int := (List.range (vz f + 1)).map fun k => (f : Int) - (p2 k : Int)
theorem links_snoc (f i : Nat) : (List.range (i + 1)).map (fun k => (f : Int) - (p2 k : Int)) = (List.range i).map (fun k => (f : Int) - (p2 k : Int)) ++ [(f : Int) - (p2 i : Int)] := by
  rw [List.range_succ, List.map_append]; rfl
theorem pow_le_of {f j : Nat} (h0 : 0 < f) (h1 : f < 9223372036854775808) (hj : j ≤ vz f) : p2 j ≤ f :=
  Nat.le_of_dvd h0 (vz_dvd h0 h1 hj)
theorem links_l0 (f : Nat) (h0 : 0 < f) (h1 : f < 9223372036854775808) : ∀ (d k i : Nat), i ≤ vz f + 1 → vz f + 1 - i = d → d < k →
    skip_Links.l0 k (f : Int) ((List.range i).map fun k => (f : Int) - (p2 k : Int)) ((vz f + 1 : Nat) : Int) (i : Int) = some (links f) := by
  have hv := (vz_spec f h0 h1).1
  intro d
  induction d with
  | zero =>
    intro k i hi hd hk
    obtain ⟨k, rfl⟩ : ∃ m, k = m + 1 := ⟨k - 1, by omega⟩
    simp only [skip_Links.l0]
    rw [if_neg (by omega), show i = vz f + 1 from by omega]
    rfl
  | succ d ih =>
    intro k i hi hd hk
    obtain ⟨k, rfl⟩ : ∃ m, k = m + 1 := ⟨k - 1, by omega⟩
    have hp := pow_le_of h0 h1 (show i ≤ vz f by omega)
    simp only [skip_Links.l0]
    rw [if_pos (by omega), if_pos (by omega), if_pos (by simp; omega), shl_one i (by omega)]
    have e1 : wrap64 ((f : Int) - (p2 i : Int)) = (f : Int) - (p2 i : Int) := by unfold wrap64; omega
    have e2 : wrap64 ((i : Int) + 1) = ((i + 1 : Nat) : Int) := by unfold wrap64; omega
    rw [e1, e2, ← links_snoc]
    exact ih k (i + 1) (by omega) (by omega) (by omega)
theorem links_f (f : Nat) (h0 : 0 < f) (h1 : f < 9223372036854775808) (k : Nat) (hk : 70 < k) : skip_Links.f k (f : Int) = some (links f) := by
  have hv := (vz_spec f h0 h1).1
  unfold skip_Links.f
  rw [if_pos (by omega), tz_f f h1]
  simp only [Option.bind_some]
  rw [show wrap64 ((vz f : Int) + 1) = ((vz f + 1 : Nat) : Int) from by unfold wrap64; omega]
  exact links_l0 f h0 h1 (vz f + 1) k 0 (by omega) (by omega) (by omega)
theorem rlinks_l0 (f : Nat) (h0 : 0 < f) (h1 : f < 9223372036854775808) : ∀ (d k i : Nat), i ≤ vz f + 1 → vz f + 1 - i = d → d < k →
    annalsref14_Links.l0 k (f : Int) ((List.range i).map fun k => (f : Int) - (p2 k : Int)) (wrap64 (p2 i : Int)) = some (links f) := by
  obtain ⟨hv, hle⟩ := vz_spec f h0 h1
  intro d
  induction d with
  | zero =>
    intro k i hi hd hk
    obtain ⟨k, rfl⟩ : ∃ m, k = m + 1 := ⟨k - 1, by omega⟩
    obtain rfl : i = vz f + 1 := by omega
    simp only [annalsref14_Links.l0]
    by_cases h62 : vz f = 62
    · have e : wrap64 (p2 (vz f + 1) : Int) = -9223372036854775808 := by rw [h62, p2_63]; unfold wrap64; omega
      rw [e, if_neg (by decide)]
      rfl
    · have h2 := p2_mono (show vz f + 1 ≤ 62 by omega)
      rw [p2_62] at h2
      have e : wrap64 (p2 (vz f + 1) : Int) = (p2 (vz f + 1) : Int) := by unfold wrap64; omega
      have hp : 0 < p2 (vz f + 1) := p2_pos _
      rw [e, if_pos (by omega)]
      by_cases hlt : p2 (vz f + 1) ≤ f
      · rw [if_pos (by omega), if_neg (by omega), if_neg]
        · rfl
        · intro h
          have h3 : f % p2 (vz f + 1) = 0 := by
            have := h
            rw [Int.tmod_eq_emod_of_nonneg (by omega)] at this
            omega
          have := vz_ge h0 h1 (Nat.dvd_of_mod_eq_zero h3)
          omega
      · rw [if_neg (by omega)]
        rfl
  | succ d ih =>
    intro k i hi hd hk
    obtain ⟨k, rfl⟩ : ∃ m, k = m + 1 := ⟨k - 1, by omega⟩
    have hp := pow_le_of h0 h1 (show i ≤ vz f by omega)
    have hp0 : 0 < p2 i := p2_pos _
    have e : wrap64 (p2 i : Int) = (p2 i : Int) := by unfold wrap64; omega
    simp only [annalsref14_Links.l0]
    rw [e, if_pos (by omega), if_pos (by omega), if_neg (by omega), if_pos, if_pos (by simp; omega)]
    · have e1 : wrap64 ((f : Int) - (p2 i : Int)) = (f : Int) - (p2 i : Int) := by unfold wrap64; omega
      have e2 : (2 : Int) * (p2 i : Int) = (p2 (i + 1) : Int) := by rw [p2_succ]; omega
      rw [e1, e2, ← links_snoc]
      exact ih k (i + 1) (by omega) (by omega) (by omega)
    · rw [Int.tmod_eq_emod_of_nonneg (by omega)]
      have := Nat.mod_eq_zero_of_dvd (vz_dvd h0 h1 (show i ≤ vz f by omega))
      omega
theorem rlinks_f (f : Nat) (h0 : 0 < f) (h1 : f < 9223372036854775808) (k : Nat) (hk : 70 < k) : annalsref14_Links.f k (f : Int) = some (links f) := by
  have hv := (vz_spec f h0 h1).1
  unfold annalsref14_Links.f
  have := rlinks_l0 f h0 h1 (vz f + 1) k 0 (by omega) (by omega) (by omega)
  rw [p2_0, show wrap64 ((1 : Nat) : Int) = 1 from by unfold wrap64; omega] at this
  exact this
def hop (f t : Nat) : Nat := min (vz f) (bl (f - t) - 1)
def nxt (f t : Nat) : Nat := f - p2 (hop f t)
theorem hop_le (f t : Nat) (h : t < f) (h1 : f < 9223372036854775808) : p2 (hop f t) ≤ f - t ∧ hop f t ≤ 62 := by
  have hb := bl_spec (f - t) (by omega) (by omega)
  have := p2_mono (show hop f t ≤ bl (f - t) - 1 from Nat.min_le_right _ _)
  have h2 : hop f t ≤ bl (f - t) - 1 := Nat.min_le_right _ _
  exact ⟨by omega, by omega⟩
theorem nxt_lt (f t : Nat) (h : t < f) (h1 : f < 9223372036854775808) : t ≤ nxt f t ∧ nxt f t < f := by
  have := hop_le f t h h1
  have hp : 0 < p2 (hop f t) := p2_pos _
  unfold nxt
  omega
theorem step_no (f t : Int) (h : t < 0 ∨ f ≤ t) (k : Nat) (hk : 0 < k) : skip_step.f k f t = some (-1) := by
  obtain ⟨k, rfl⟩ : ∃ m, k = m + 1 := ⟨k - 1, by omega⟩
  unfold skip_step.f
  by_cases ht : t < 0
  · rw [if_pos ht]
    simp only [skip_step.j0]
    rw [if_pos trivial]
  · rw [if_neg ht]
    simp only [skip_step.j0]
    rw [if_pos (by simp; omega)]
theorem step_yes (f t : Nat) (h : t < f) (h1 : f < 9223372036854775808) (k : Nat) (hk : 0 < k) : skip_step.f k (f : Int) (t : Int) = some (hop f t : Int) := by
  obtain ⟨k, rfl⟩ : ∃ m, k = m + 1 := ⟨k - 1, by omega⟩
  have hb := bl_spec (f - t) (by omega) (by omega)
  have hv := (vz_spec f (by omega) h1).1
  unfold skip_step.f
  rw [if_neg (by omega)]
  simp only [skip_step.j0]
  rw [if_neg (by simp; omega), tz_f f h1]
  have e : wrap64 ((f : Int) - (t : Int)) = ((f - t : Nat) : Int) := by unfold wrap64; omega
  simp only [Option.bind_some]
  rw [e, len_f (f - t) (by omega)]
  simp only [Option.bind_some]
  congr 1
  unfold hop mn wrap64
  by_cases hc : (vz f : Int) ≤ (bl (f - t) : Int) - 1
  · rw [Nat.min_eq_left (by omega)]
    split <;> omega
  · rw [Nat.min_eq_right (by omega)]
    split <;> omega
theorem next_yes (f t : Nat) (h : t < f) (h1 : f < 9223372036854775808) (k : Nat) (hk : 0 < k) : skip_Next.f k (f : Int) (t : Int) = some (nxt f t : Int) := by
  have hh := hop_le f t h h1
  unfold skip_Next.f
  rw [step_yes f t h h1 k hk]
  simp only [Option.bind_some]
  rw [if_neg (by omega), if_pos (by omega), shl_one _ hh.2]
  congr 1
  unfold nxt wrap64
  omega
theorem rd_links (f : Nat) (i : Nat) (h : i < vz f + 1) : rd (links f) (i : Int) = (f : Int) - (p2 i : Int) := by
  unfold rd links
  rw [Int.toNat_natCast, List.getD_eq_getElem?_getD, List.getElem?_map, List.getElem?_range h]
  rfl
theorem links_length (f : Nat) : (links f).length = vz f + 1 := by unfold links; simp
def cur (f t : Nat) : Nat → Nat
  | 0 => f
  | i + 1 => if t < f then f - p2 (min i (bl (f - t) - 1)) else f
theorem cur_pos {f t : Nat} (h : t < f) (i : Nat) : cur f t (i + 1) = f - p2 (min i (bl (f - t) - 1)) := if_pos h
theorem cur_neg {f t : Nat} (h : ¬ t < f) (i : Nat) : cur f t i = f := by
  cases i with
  | zero => rfl
  | succ i => exact if_neg h
theorem rnext_l0 (f t : Nat) (h0 : 0 < f) (h1 : f < 9223372036854775808) : ∀ (d k i : Nat), i ≤ vz f + 1 → vz f + 1 - i = d → d < k →
    annalsref14_Next.l0 k (t : Int) (cur f t i : Int) (links f) ((links f).length : Int) (i : Int) = some (cur f t (vz f + 1) : Int) := by
  have hv := (vz_spec f h0 h1).1
  intro d
  induction d with
  | zero =>
    intro k i hi hd hk
    obtain ⟨k, rfl⟩ : ∃ m, k = m + 1 := ⟨k - 1, by omega⟩
    simp only [annalsref14_Next.l0, links_length]
    rw [if_neg (by omega), show i = vz f + 1 from by omega]
  | succ d ih =>
    intro k i hi hd hk
    obtain ⟨k, rfl⟩ : ∃ m, k = m + 1 := ⟨k - 1, by omega⟩
    have hp := pow_le_of h0 h1 (show i ≤ vz f by omega)
    have e2 : wrap64 ((i : Int) + 1) = ((i + 1 : Nat) : Int) := by unfold wrap64; omega
    simp only [annalsref14_Next.l0]
    rw [e2, rd_links f i (by omega), links_length]
    rw [if_pos (show (i : Int) < ((vz f + 1 : Nat) : Int) by omega), if_pos (show (0 : Int) ≤ (i : Int) by omega), if_pos (show (i : Int) < ((vz f + 1 : Nat) : Int) by omega)]
    have ih' := ih k (i + 1) (by omega) (by omega) (by omega)
    rw [links_length] at ih'
    by_cases hc : t + p2 i ≤ f
    · rw [if_pos (show (f : Int) - (p2 i : Int) ≥ (t : Int) by omega)]
      have hp0 : 0 < p2 i := p2_pos _
      have hb := bl_spec (f - t) (by omega) (by omega)
      have hi2 : i ≤ bl (f - t) - 1 := by
        apply Nat.le_of_not_lt
        intro hlt
        have := p2_mono (show bl (f - t) ≤ i by omega)
        omega
      have e3 : cur f t (i + 1) = f - p2 i := by
        rw [cur_pos (by omega), Nat.min_eq_left hi2]
      rw [e3] at ih'
      rw [show (f : Int) - (p2 i : Int) = ((f - p2 i : Nat) : Int) from by omega]
      exact ih'
    · rw [if_neg (show ¬ (f : Int) - (p2 i : Int) ≥ (t : Int) by omega)]
      have e3 : cur f t (i + 1) = cur f t i := by
        by_cases htf : t < f
        · have hb := bl_spec (f - t) (by omega) (by omega)
          have hi2 : bl (f - t) - 1 < i := by
            apply Nat.lt_of_not_le
            intro hle
            have := p2_mono hle
            omega
          cases i with
          | zero => omega
          | succ i =>
            have m1 : min (i + 1) (bl (f - t) - 1) = bl (f - t) - 1 := Nat.min_eq_right (Nat.le_of_lt hi2)
            have m2 : min i (bl (f - t) - 1) = bl (f - t) - 1 := Nat.min_eq_right (Nat.le_of_lt_succ hi2)
            rw [cur_pos htf, cur_pos htf, m1, m2]
        · rw [cur_neg htf, cur_neg htf]
      rw [e3] at ih'
      exact ih'
theorem rnext_yes (f t : Nat) (h : t < f) (h1 : f < 9223372036854775808) (k : Nat) (hk : 70 < k) : annalsref14_Next.f k (f : Int) (t : Int) = some (nxt f t : Int) := by
  unfold annalsref14_Next.f
  rw [if_neg (by omega), rlinks_f f (by omega) h1 k hk]
  simp only [Option.bind_some]
  have hv := (vz_spec f (by omega) h1).1
  have := rnext_l0 f t (by omega) h1 (vz f + 1) k 0 (by omega) (by omega) (by omega)
  have e : cur f t (vz f + 1) = nxt f t := cur_pos h _
  rw [e] at this
  exact this
def wayL : Nat → Nat → Nat → List Int
  | 0, _, _ => []
  | n + 1, f, t => if t < f then (nxt f t : Int) :: wayL n (nxt f t) t else []
theorem way_l0 (t : Nat) : ∀ (n k f : Nat) (acc : List Int), f < 9223372036854775808 → f - t ≤ n → n + 1 < k → acc.length + n < 10000000 →
    skip_Way.l0 k (f : Int) (t : Int) acc = some (acc ++ wayL n f t) := by
  intro n
  induction n with
  | zero =>
    intro k f acc h1 hn hk ha
    obtain ⟨k, rfl⟩ : ∃ m, k = m + 1 := ⟨k - 1, by omega⟩
    simp only [skip_Way.l0, wayL]
    rw [step_no _ _ (by omega) k (by omega)]
    simp
  | succ n ih =>
    intro k f acc h1 hn hk ha
    obtain ⟨k, rfl⟩ : ∃ m, k = m + 1 := ⟨k - 1, by omega⟩
    simp only [skip_Way.l0, wayL]
    by_cases htf : t < f
    · have hx := nxt_lt f t htf h1
      rw [step_yes f t htf h1 k (by omega), if_pos htf]
      simp only [Option.bind_some]
      rw [if_pos (by omega), next_yes f t htf h1 k (by omega)]
      simp only [Option.bind_some]
      rw [if_pos (by omega), ih k (nxt f t) (acc ++ [(nxt f t : Int)]) (by omega) (by omega) (by omega) (by simp; omega)]
      simp
    · rw [step_no _ _ (by omega) k (by omega), if_neg htf]
      simp
theorem way_yes (f t : Nat) (h1 : f ≤ 1048576) (k : Nat) (hk : 1048580 < k) : skip_Way.f k (f : Int) (t : Int) = some (wayL f f t) := by
  unfold skip_Way.f
  rw [if_neg (by omega)]
  exact way_l0 t f k f [] (by omega) (by omega) (by omega) (by simp; omega)
theorem rway_l0 (t : Nat) : ∀ (n k f : Nat) (acc : List Int), f < 9223372036854775808 → f - t ≤ n → n + 80 < k → acc.length + n < 10000000 →
    annalsref14_Way.l0 k (f : Int) (t : Int) acc = some (acc ++ wayL n f t) := by
  intro n
  induction n with
  | zero =>
    intro k f acc h1 hn hk ha
    obtain ⟨k, rfl⟩ : ∃ m, k = m + 1 := ⟨k - 1, by omega⟩
    simp only [annalsref14_Way.l0, wayL]
    rw [if_neg (by omega)]
    simp
  | succ n ih =>
    intro k f acc h1 hn hk ha
    obtain ⟨k, rfl⟩ : ∃ m, k = m + 1 := ⟨k - 1, by omega⟩
    simp only [annalsref14_Way.l0, wayL]
    by_cases htf : t < f
    · have hx := nxt_lt f t htf h1
      rw [if_pos (by omega), rnext_yes f t htf h1 k (by omega), if_pos htf]
      simp only [Option.bind_some]
      rw [if_pos (by omega), ih k (nxt f t) (acc ++ [(nxt f t : Int)]) (by omega) (by omega) (by omega) (by simp; omega)]
      simp
    · rw [if_neg (by omega), if_neg htf]
      simp
theorem rway_no (f t : Int) (h : t < 0 ∨ f ≤ t) (k : Nat) (hk : 1 < k) : annalsref14_Way.f k f t = some [] := by
  obtain ⟨k, rfl⟩ : ∃ m, k = m + 1 := ⟨k - 1, by omega⟩
  unfold annalsref14_Way.f
  by_cases ht : t < 0
  · rw [if_pos ht]
    simp only [annalsref14_Way.j0]
    rw [if_pos trivial]
  · rw [if_neg ht, if_pos (by omega)]
    simp only [annalsref14_Way.j0]
    rw [if_pos trivial]
theorem rway_yes (f t : Nat) (ht : t < f) (h1 : f ≤ 1048576) (k : Nat) (hk : 1048700 < k) : annalsref14_Way.f k (f : Int) (t : Int) = some (wayL f f t) := by
  obtain ⟨k, rfl⟩ : ∃ m, k = m + 1 := ⟨k - 1, by omega⟩
  unfold annalsref14_Way.f
  rw [if_neg (by omega), if_neg (by omega)]
  simp only [annalsref14_Way.j0]
  rw [if_neg (by simp; omega)]
  exact rway_l0 t f k f [] (by omega) (by omega) (by omega) (by simp; omega)
theorem awake_f (k : Nat) (hk : 1048700 < k) : annalslaw14_awake.f k = some true := by
  unfold annalslaw14_awake.f
  have h1 := way_yes 7 0 (by omega) k (by omega)
  have h2 := next_yes 6 0 (by omega) (by omega) k (by omega)
  have e1 : wayL 7 7 0 = [6, 4, 0] := by decide +kernel
  have e2 : nxt 6 0 = 4 := by decide +kernel
  rw [e1] at h1
  rw [e2] at h2
  rw [show (7 : Int) = ((7 : Nat) : Int) from rfl, show (0 : Int) = ((0 : Nat) : Int) from rfl, show (6 : Int) = ((6 : Nat) : Int) from rfl, h1]
  simp only [Option.bind_some]
  rw [show (((6 : Nat) : Int) :: 4 :: [((0 : Nat) : Int)]) = [6, 4, 0] from rfl]
  rw [equal_same [6, 4, 0] (by simp) k (by simp; omega), h2]
  rfl
end Go.Proofs.YtbedgjjiinhpkaaDoor.Pure
end
section
namespace Go.Proofs.YtbedgjjiinhpkaaDoor.P
open Go.RowKit Go.Proofs.YtbedgjjiinhpkaaDoorW.PrintWords Go.Proofs.YtbedgjjiinhpkaaDoorW.PrintLast Go.Proofs.YtbedgjjiinhpkaaDoorW.PrintMore
attribute [local go_sem] max2_int min2_int max_two min_two max_three min_three max_four min_four
set_option linter.unusedVariables false
set_option linter.unusedSimpArgs false
def bits_RotateLeft32.f (a0 : Int) (a1 : Int) : Option (Int) := if 0 ≤ (Go.bits .and .u64 (IntKind.u64.wrap (a1)) 31) then (if 0 ≤ (IntKind.u64.wrap (32 - (Go.bits .and .u64 (IntKind.u64.wrap (a1)) 31))) then (some (Go.bits .or .u32 (shl .u32 a0 (Go.bits .and .u64 (IntKind.u64.wrap (a1)) 31)) (shr .u32 a0 (IntKind.u64.wrap (32 - (Go.bits .and .u64 (IntKind.u64.wrap (a1)) 31)))))) else (none)) else (none)
set_option maxHeartbeats 8000000 in
set_option maxRecDepth 100000 in
theorem bits_RotateLeft32.calls (a0 : Int) (a1 : Int) (r : Int) (w : World) (h : bits_RotateLeft32.f a0 a1 = some r) :
    Calls Tryd.prog 225 #[.int .u32 a0, .int .i64 a1] w fun e w' => e = .returned (.int .u32 r) ∧ Drawn0 w w' := by
  have H : (if 0 ≤ (Go.bits .and .u64 (IntKind.u64.wrap (a1)) 31) then (if 0 ≤ (IntKind.u64.wrap (32 - (Go.bits .and .u64 (IntKind.u64.wrap (a1)) 31))) then (some (Go.bits .or .u32 (shl .u32 a0 (Go.bits .and .u64 (IntKind.u64.wrap (a1)) 31)) (shr .u32 a0 (IntKind.u64.wrap (32 - (Go.bits .and .u64 (IntKind.u64.wrap (a1)) 31)))))) else (none)) else (none)) = some r := h
  clear h
  obtain ⟨ji3, hji3⟩ : ∃ j_ : Int, (Go.bits .and .u64 (IntKind.u64.wrap (a1)) 31) = j_ := ⟨_, rfl⟩
  replace H : (if 0 ≤ (ji3) then (if 0 ≤ (IntKind.u64.wrap (32 - (ji3))) then (some (Go.bits .or .u32 (shl .u32 a0 (ji3)) (shr .u32 a0 (IntKind.u64.wrap (32 - (ji3)))))) else (none)) else (none)) = some r := by first | (rw [hji3] at H; exact H) | (simp only [hji3] at H ⊢; exact H)
  by_cases c4 : 0 ≤ (ji3)
  · rw [if_pos c4] at H
    have c4b0 := eq_true c4
    have c4b1 : decide (0 ≤ (ji3)) = true := decide_eq_true c4
    clear c4
    obtain ⟨ji5, hji5⟩ : ∃ j_ : Int, (shl .u32 a0 (ji3)) = j_ := ⟨_, rfl⟩
    replace H : (if 0 ≤ (IntKind.u64.wrap (32 - (ji3))) then (some (Go.bits .or .u32 (ji5) (shr .u32 a0 (IntKind.u64.wrap (32 - (ji3)))))) else (none)) = some r := by first | (rw [hji5] at H; exact H) | (simp only [hji5] at H ⊢; exact H)
    have hji5_ : (IntKind.u32.wrap (a0 * 2 ^ min (ji3).toNat 32)) = ji5 := hji5
    have hji5z : (ji3) ≤ 32 → (IntKind.u32.wrap (a0 * 2 ^ (ji3).toNat)) = ji5 := shl_small hji5
    obtain ⟨ji6, hji6⟩ : ∃ j_ : Int, (IntKind.u64.wrap (32 - (ji3))) = j_ := ⟨_, rfl⟩
    replace H : (if 0 ≤ (ji6) then (some (Go.bits .or .u32 (ji5) (shr .u32 a0 (ji6)))) else (none)) = some r := by first | (rw [hji6] at H; exact H) | (simp only [hji6] at H ⊢; exact H)
    by_cases c7 : 0 ≤ (ji6)
    · rw [if_pos c7] at H
      have c7b0 := eq_true c7
      have c7b1 : decide (0 ≤ (ji6)) = true := decide_eq_true c7
      clear c7
      obtain ⟨ji8, hji8⟩ : ∃ j_ : Int, (shr .u32 a0 (ji6)) = j_ := ⟨_, rfl⟩
      replace H : (some (Go.bits .or .u32 (ji5) (ji8))) = some r := by first | (rw [hji8] at H; exact H) | (simp only [hji8] at H ⊢; exact H)
      have hji8_ : (a0 / 2 ^ min (ji6).toNat 32) = ji8 := hji8
      have hji8z : (ji6) ≤ 32 → (a0 / 2 ^ (ji6).toNat) = ji8 := shr_small hji8
      obtain rfl := Option.some.inj H
      go_enter Tryd.func225, Tryd.ntmps225
      go_wp2
      go_ret
      exact ⟨by first | rfl | (simp; done) | (simp only [← hji3, ← hji5, ← hji6, ← hji8] <;> (first | rfl | simp)) | (simp [*]; done), by repeat (first | exact Drawn0.refl _ | apply Drawn0.step)⟩
    · rw [if_neg c7] at H
      exact absurd H (by simp)
  · rw [if_neg c4] at H
    exact absurd H (by simp)
end Go.Proofs.YtbedgjjiinhpkaaDoor.P
end
section
namespace Go.Proofs.YtbedgjjiinhpkaaDoor.P
open Go.RowKit Go.Proofs.YtbedgjjiinhpkaaDoorW.PrintWords Go.Proofs.YtbedgjjiinhpkaaDoorW.PrintLast Go.Proofs.YtbedgjjiinhpkaaDoorW.PrintMore
attribute [local go_sem] max2_int min2_int max_two min_two max_three min_three max_four min_four
set_option linter.unusedVariables false
set_option linter.unusedSimpArgs false
def sha_gamma.f (a0 : Int) (a1 : Int) (a2 : Int) (a3 : Int) : Option (Int) := (bits_RotateLeft32.f a0 (wrap64 (32 - a1))).bind fun t115 => ((bits_RotateLeft32.f a0 (wrap64 (32 - a2))).bind fun t116 => (if 0 ≤ a3 then (some (Go.bits .xor .u32 (Go.bits .xor .u32 t115 t116) (shr .u32 a0 a3))) else (none)))
set_option maxHeartbeats 8000000 in
set_option maxRecDepth 100000 in
theorem sha_gamma.calls (a0 : Int) (a1 : Int) (a2 : Int) (a3 : Int) (r : Int) (w : World) (h : sha_gamma.f a0 a1 a2 a3 = some r) :
    Calls Tryd.prog 224 #[.int .u32 a0, .int .i64 a1, .int .i64 a2, .int .i64 a3] w fun e w' => e = .returned (.int .u32 r) ∧ Drawn0 w w' := by
  have H : ((bits_RotateLeft32.f a0 (wrap64 (32 - a1))).bind fun t115 => ((bits_RotateLeft32.f a0 (wrap64 (32 - a2))).bind fun t116 => (if 0 ≤ a3 then (some (Go.bits .xor .u32 (Go.bits .xor .u32 t115 t116) (shr .u32 a0 a3))) else (none)))) = some r := h
  clear h
  replace H := Option.bind_eq_some_iff.mp H
  obtain ⟨t115, A50, H⟩ := H
  replace H : ((bits_RotateLeft32.f a0 (wrap64 (32 - a2))).bind fun t116 => (if 0 ≤ a3 then (some (Go.bits .xor .u32 (Go.bits .xor .u32 t115 t116) (shr .u32 a0 a3))) else (none))) = some r := H
  have A5 := Aside0.mk A50
  clear A50
  replace H := Option.bind_eq_some_iff.mp H
  obtain ⟨t116, A60, H⟩ := H
  replace H : (if 0 ≤ a3 then (some (Go.bits .xor .u32 (Go.bits .xor .u32 t115 t116) (shr .u32 a0 a3))) else (none)) = some r := H
  have A6 := Aside0.mk A60
  clear A60
  by_cases c7 : 0 ≤ a3
  · rw [if_pos c7] at H
    have c7b0 := eq_true c7
    have c7b1 : decide (0 ≤ a3) = true := decide_eq_true c7
    clear c7
    obtain ⟨ji8, hji8⟩ : ∃ j_ : Int, (shr .u32 a0 a3) = j_ := ⟨_, rfl⟩
    replace H : (some (Go.bits .xor .u32 (Go.bits .xor .u32 t115 t116) (ji8))) = some r := by first | (rw [hji8] at H; exact H) | (simp only [hji8] at H ⊢; exact H)
    (try rw [hji8] at A5)
    (try rw [hji8] at A6)
    have hji8_ : (a0 / 2 ^ min a3.toNat 32) = ji8 := hji8
    have hji8z : a3 ≤ 32 → (a0 / 2 ^ a3.toNat) = ji8 := shr_small hji8
    obtain rfl := Option.some.inj H
    go_enter Tryd.func224, Tryd.ntmps224
    go_wp2_with (first | (go_at_call 225; (with_reducible refine (bits_RotateLeft32.calls a0 (wrap64 (32 - a1)) t115 _ A5.out).mono ?_); rintro e w' ⟨rfl, ⟨nd, rfl⟩⟩; (try first | exact ⟨rfl, _, World.drewN_drewN _ _ _⟩ | exact ⟨rfl, _, Eq.trans (World.drewN_drewN _ _ _) (congrArg (World.drewN _) (Nat.add_assoc _ _ _))⟩)) | (go_at_call 225; (with_reducible refine (bits_RotateLeft32.calls a0 (wrap64 (32 - a2)) t116 _ A6.out).mono ?_); rintro e w' ⟨rfl, ⟨nd, rfl⟩⟩; (try first | exact ⟨rfl, _, World.drewN_drewN _ _ _⟩ | exact ⟨rfl, _, Eq.trans (World.drewN_drewN _ _ _) (congrArg (World.drewN _) (Nat.add_assoc _ _ _))⟩)))
    repeat (go_quiet (first | (go_at_call 225; (with_reducible refine (bits_RotateLeft32.calls a0 (wrap64 (32 - a1)) t115 _ A5.out).mono ?_); rintro e w' ⟨rfl, ⟨nd, rfl⟩⟩; (try first | exact ⟨rfl, _, World.drewN_drewN _ _ _⟩ | exact ⟨rfl, _, Eq.trans (World.drewN_drewN _ _ _) (congrArg (World.drewN _) (Nat.add_assoc _ _ _))⟩)) | (go_at_call 225; (with_reducible refine (bits_RotateLeft32.calls a0 (wrap64 (32 - a2)) t116 _ A6.out).mono ?_); rintro e w' ⟨rfl, ⟨nd, rfl⟩⟩; (try first | exact ⟨rfl, _, World.drewN_drewN _ _ _⟩ | exact ⟨rfl, _, Eq.trans (World.drewN_drewN _ _ _) (congrArg (World.drewN _) (Nat.add_assoc _ _ _))⟩))); try go_wp2_with (first | (go_at_call 225; (with_reducible refine (bits_RotateLeft32.calls a0 (wrap64 (32 - a1)) t115 _ A5.out).mono ?_); rintro e w' ⟨rfl, ⟨nd, rfl⟩⟩; (try first | exact ⟨rfl, _, World.drewN_drewN _ _ _⟩ | exact ⟨rfl, _, Eq.trans (World.drewN_drewN _ _ _) (congrArg (World.drewN _) (Nat.add_assoc _ _ _))⟩)) | (go_at_call 225; (with_reducible refine (bits_RotateLeft32.calls a0 (wrap64 (32 - a2)) t116 _ A6.out).mono ?_); rintro e w' ⟨rfl, ⟨nd, rfl⟩⟩; (try first | exact ⟨rfl, _, World.drewN_drewN _ _ _⟩ | exact ⟨rfl, _, Eq.trans (World.drewN_drewN _ _ _) (congrArg (World.drewN _) (Nat.add_assoc _ _ _))⟩))))
    go_ret
    exact ⟨by first | rfl | (simp; done) | (simp only [← hji8] <;> (first | rfl | simp)) | (simp [*]; done), by repeat (first | exact Drawn0.refl _ | apply Drawn0.step)⟩
  · rw [if_neg c7] at H
    exact absurd H (by simp)
end Go.Proofs.YtbedgjjiinhpkaaDoor.P
end
section
namespace Go.Proofs.YtbedgjjiinhpkaaDoor.P
open Go.RowKit Go.Proofs.YtbedgjjiinhpkaaDoorW.PrintWords Go.Proofs.YtbedgjjiinhpkaaDoorW.PrintLast Go.Proofs.YtbedgjjiinhpkaaDoorW.PrintMore
attribute [local go_sem] max2_int min2_int max_two min_two max_three min_three max_four min_four
set_option linter.unusedVariables false
set_option linter.unusedSimpArgs false
def sha_sigma.f (a0 : Int) (a1 : Int) (a2 : Int) (a3 : Int) : Option (Int) := (bits_RotateLeft32.f a0 (wrap64 (32 - a1))).bind fun t117 => ((bits_RotateLeft32.f a0 (wrap64 (32 - a2))).bind fun t118 => ((bits_RotateLeft32.f a0 (wrap64 (32 - a3))).bind fun t119 => (some (Go.bits .xor .u32 (Go.bits .xor .u32 t117 t118) t119))))
set_option maxHeartbeats 8000000 in
set_option maxRecDepth 100000 in
theorem sha_sigma.calls (a0 : Int) (a1 : Int) (a2 : Int) (a3 : Int) (r : Int) (w : World) (h : sha_sigma.f a0 a1 a2 a3 = some r) :
    Calls Tryd.prog 215 #[.int .u32 a0, .int .i64 a1, .int .i64 a2, .int .i64 a3] w fun e w' => e = .returned (.int .u32 r) ∧ Drawn0 w w' := by
  have H : ((bits_RotateLeft32.f a0 (wrap64 (32 - a1))).bind fun t117 => ((bits_RotateLeft32.f a0 (wrap64 (32 - a2))).bind fun t118 => ((bits_RotateLeft32.f a0 (wrap64 (32 - a3))).bind fun t119 => (some (Go.bits .xor .u32 (Go.bits .xor .u32 t117 t118) t119))))) = some r := h
  clear h
  replace H := Option.bind_eq_some_iff.mp H
  obtain ⟨t117, A50, H⟩ := H
  replace H : ((bits_RotateLeft32.f a0 (wrap64 (32 - a2))).bind fun t118 => ((bits_RotateLeft32.f a0 (wrap64 (32 - a3))).bind fun t119 => (some (Go.bits .xor .u32 (Go.bits .xor .u32 t117 t118) t119)))) = some r := H
  have A5 := Aside0.mk A50
  clear A50
  replace H := Option.bind_eq_some_iff.mp H
  obtain ⟨t118, A60, H⟩ := H
  replace H : ((bits_RotateLeft32.f a0 (wrap64 (32 - a3))).bind fun t119 => (some (Go.bits .xor .u32 (Go.bits .xor .u32 t117 t118) t119))) = some r := H
  have A6 := Aside0.mk A60
  clear A60
  replace H := Option.bind_eq_some_iff.mp H
  obtain ⟨t119, A70, H⟩ := H
  replace H : (some (Go.bits .xor .u32 (Go.bits .xor .u32 t117 t118) t119)) = some r := H
  have A7 := Aside0.mk A70
  clear A70
  obtain rfl := Option.some.inj H
  go_enter Tryd.func215, Tryd.ntmps215
  go_wp2_with (first | ((with_reducible refine gate_callee (f := 225) rfl ?_); refine goesL_ (some 12) rfl rfl Tryd.func225 (by kernel_rfl) rfl #[.int .u32 a0, .int .i64 (wrap64 (32 - a1))] rfl (by (try simp only [List.map_toArray, List.map_cons, List.map_nil]); first | done | rfl | (simp only [List.length_drop, List.length_take]; rfl)) ?_; (with_reducible refine (bits_RotateLeft32.calls a0 (wrap64 (32 - a1)) t117 _ A5.out).mono ?_); rintro e w' ⟨rfl, ⟨nd, rfl⟩⟩; refine ⟨_, rfl, ?_⟩) | ((with_reducible refine gate_callee (f := 225) rfl ?_); refine goesL_ (some 16) rfl rfl Tryd.func225 (by kernel_rfl) rfl #[.int .u32 a0, .int .i64 (wrap64 (32 - a2))] rfl (by (try simp only [List.map_toArray, List.map_cons, List.map_nil]); first | done | rfl | (simp only [List.length_drop, List.length_take]; rfl)) ?_; (with_reducible refine (bits_RotateLeft32.calls a0 (wrap64 (32 - a2)) t118 _ A6.out).mono ?_); rintro e w' ⟨rfl, ⟨nd, rfl⟩⟩; refine ⟨_, rfl, ?_⟩) | ((with_reducible refine gate_callee (f := 225) rfl ?_); refine goesL_ (some 21) rfl rfl Tryd.func225 (by kernel_rfl) rfl #[.int .u32 a0, .int .i64 (wrap64 (32 - a3))] rfl (by (try simp only [List.map_toArray, List.map_cons, List.map_nil]); first | done | rfl | (simp only [List.length_drop, List.length_take]; rfl)) ?_; (with_reducible refine (bits_RotateLeft32.calls a0 (wrap64 (32 - a3)) t119 _ A7.out).mono ?_); rintro e w' ⟨rfl, ⟨nd, rfl⟩⟩; refine ⟨_, rfl, ?_⟩))
  go_ret
  exact ⟨by first | rfl | (simp; done) | (simp [*]; done), by repeat (first | exact Drawn0.refl _ | apply Drawn0.step)⟩
end Go.Proofs.YtbedgjjiinhpkaaDoor.P
end
section
set_option linter.unusedVariables false
set_option linter.unusedSimpArgs false
namespace Go.Proofs.YtbedgjjiinhpkaaDoor.P
open Go.RowKit Go.Proofs.YtbedgjjiinhpkaaDoorW.PrintWords Go.Proofs.YtbedgjjiinhpkaaDoorW.PrintLast Go.Proofs.YtbedgjjiinhpkaaDoorW.PrintMore
def words (xs : List Int) : Array Value := (xs.map (Value.int .u32)).toArray
theorem words_get (xs : List Int) (i : Nat) (h : i < xs.length) : (words xs)[i]? = some (.int .u32 (xs.getD i 0)) := by
  unfold words
  rw [List.getElem?_toArray, List.getElem?_map, List.getElem?_eq_getElem h, List.getD_eq_getElem?_getD, List.getElem?_eq_getElem h]
  rfl
theorem words_set (xs : List Int) (i : Nat) (x : Int) : (words xs).setIfInBounds i (.int .u32 x) = words (xs.set i x) := by
  unfold words
  rw [List.map_set]
  simp
def IsWords (w : World) (g t : Nat) (xs : List Int) : Prop := w.heap[g]? = some (.cells (words xs) t (0, 0))
theorem IsWords.cell {w : World} {g t : Nat} {xs : List Int} (h : IsWords w g t xs) (i : Nat) (hi : i < xs.length) : w.cell? ⟨g, i, none⟩ = some (.int .u32 (xs.getD i 0)) :=
  (blk_cell h i).trans (words_get xs i hi)
theorem IsWords.frozen {w : World} {g t : Nat} {xs : List Int} (h : IsWords w g t xs) (i : Nat) : w.frozen? ⟨g, i, none⟩ = false := blk_frozen h i
theorem IsWords.set {w : World} {g t : Nat} {xs : List Int} (h : IsWords w g t xs) (i : Nat) (x : Int) : IsWords (w.setCell ⟨g, i, none⟩ (.int .u32 x)) g t (xs.set i x) := by
  unfold IsWords
  rw [← words_set]
  exact blk_set h i _
theorem IsWords.drewN {w : World} {g t : Nat} {xs : List Int} (h : IsWords w g t xs) (n : Nat) : IsWords (w.drewN n) g t xs := h
def zeros64 : List Int := List.replicate 64 0
def sched2At (xs : List Int) (i : Nat) : Int := ((((sha_gamma.f (xs.getD (i - 2) 0) 17 19 10).getD 0 + xs.getD (i - 7) 0) % 4294967296 + (sha_gamma.f (xs.getD (i - 15) 0) 7 18 3).getD 0) % 4294967296 + xs.getD (i - 16) 0) % 4294967296
def sched2 (xs : List Int) : Nat → List Int
  | 0 => xs
  | k + 1 => (sched2 xs k).set (k + 16) (sched2At (sched2 xs k) (k + 16))
def sched1 (bs : List Int) : Nat → List Int
  | 0 => zeros64
  | k + 1 => (sched1 bs k).set (k / 4) (Go.bits .or .u32 (((sched1 bs k).getD (k / 4) 0) * 256 % 4294967296) (rd bs (k : Int) % 4294967296))
def schedule (bs : List Int) : List Int := sched2 (sched1 bs 64) 48
theorem sched1_length (bs : List Int) (k : Nat) : (sched1 bs k).length = 64 := by
  induction k with
  | zero => simp [sched1, zeros64]
  | succ k ih => simp [sched1, ih]
theorem sched2_length (xs : List Int) (k : Nat) (h : xs.length = 64) : (sched2 xs k).length = 64 := by
  induction k with
  | zero => exact h
  | succ k ih => simp [sched2, ih]
theorem cell_set_ne {w : World} {g i j n : Nat} {u : Value} (h : i ≠ j) (v : Value) (hc : w.cell? ⟨g, i, none⟩ = some u) : ((w.drewN n).setCell ⟨g, j, none⟩ v).cell? ⟨g, i, none⟩ = some u := by
  refine (World.cell?_setCell_other _ _ _ _ (fun e => ?_)).trans ?_
  · simp only [Addr.mk.injEq] at e
    omega
  · exact hc
theorem bits_u64_nonneg (op : BinOp) (x y : Int) : 0 ≤ Go.bits op .u64 x y := by
  unfold Go.bits
  rw [IntKind.wrap_u64]
  omega
theorem rot_some (x n : Int) : ∃ r, bits_RotateLeft32.f x n = some r := by
  unfold bits_RotateLeft32.f
  rw [if_pos (bits_u64_nonneg _ _ _), if_pos (by rw [IntKind.wrap_u64]; omega)]
  exact ⟨_, rfl⟩
theorem gamma_some (x a b c : Int) (hc : 0 ≤ c) : sha_gamma.f x a b c = some ((sha_gamma.f x a b c).getD 0) := by
  unfold sha_gamma.f
  obtain ⟨r1, h1⟩ := rot_some x (wrap64 (32 - a))
  obtain ⟨r2, h2⟩ := rot_some x (wrap64 (32 - b))
  rw [h1, h2]
  simp only [Option.bind_some]
  rw [if_pos hc]
  rfl
theorem sigma_some (x a b c : Int) : sha_sigma.f x a b c = some ((sha_sigma.f x a b c).getD 0) := by
  unfold sha_sigma.f
  obtain ⟨r1, h1⟩ := rot_some x (wrap64 (32 - a))
  obtain ⟨r2, h2⟩ := rot_some x (wrap64 (32 - b))
  obtain ⟨r3, h3⟩ := rot_some x (wrap64 (32 - c))
  rw [h1, h2, h3]
  rfl
set_option maxHeartbeats 1000000 in
set_option maxRecDepth 100000 in
theorem scheduleOf_calls (A0 : Option Addr) (c0 : Nat) (bs : List Int) (w : World) (hr : Kd.C (Kd.int .u8) w A0 bs.length bs) (hc : bs.length ≤ c0) (hl : 64 ≤ bs.length) (hb : bs.length < 9223372036854775807) :
    Calls Tryd.prog 214 #[.slice A0 bs.length c0] w fun e w' => e = .returned (.pointer (some ⟨w.heap.size, 0, none⟩)) ∧ IsWords w' w.heap.size 258 (schedule bs) ∧ Below w.heap.size w w' := by
  have HR := Aside0.mk hr
  have hc64 : 64 ≤ c0 := by omega
  clear hr hc
  go_enter Tryd.func214, Tryd.ntmps214
  go_wp2_with fail
  obtain ⟨g, hg⟩ : ∃ g, g = w.heap.size := ⟨_, rfl⟩
  rw [← hg]
  have HG := Aside0.mk hg
  clear hg
  go_loopw [10] (fun v10 wr => ∃ k : Nat, k ≤ 64 ∧ v10 = .int .i64 k ∧ Aside0 (IsWords wr g 258 (sched1 bs k)) ∧ Aside0 (Below w.heap.size w wr)) (fun v10 _ => 64 - (intOf v10).toNat)
  case atStart => exact ⟨0, by omega, rfl, ⟨by rw [HG.out]; exact heap_alloc_new w _⟩, ⟨below_alloc (Below.refl _ _) _⟩⟩
  case round =>
    obtain ⟨k, hk, rfl, HI, HB⟩ := hrel
    by_cases hlt : k < 64
    · have hd : decide ((k : Int) < 64) = true := by simp; omega
      obtain ⟨ad, rfl, hx0⟩ := Kd.at_int HR.out (k : Int) (by omega) (by omega)
      have hx := (HB.out.cell (World.block_lt_of_cell? w _ hx0)).trans hx0
      clear hx0
      rw [Int.toNat_natCast] at hx
      have hk4 : k / 4 < 64 := by omega
      have hc := HI.out.cell (k / 4) (by rw [sched1_length]; omega)
      have hf := HI.out.frozen (k / 4)
      go_wp2_with fail
      go_roundw
      case rel =>
        refine ⟨k + 1, by omega, by go_num, ⟨?_⟩, ⟨HB.out.setCell (by show w.heap.size ≤ g; rw [HG.out]; omega) _⟩⟩
        have := HI.out.set (k / 4) (Go.bits .or .u32 (((sched1 bs k).getD (k / 4) 0) * 256 % 4294967296) (rd bs (k : Int) % 4294967296))
        rw [List.getD_eq_getElem?_getD] at this
        simpa only [sched1, List.getD_eq_getElem?_getD] using this
      case measure => simp [intOf]; omega
    · have hd : decide ((k : Int) < 64) = false := by simp; omega
      have hk64 : k = 64 := by omega
      rw [hk64] at HI
      clear hk64 hk hlt
      go_wp2_with fail
      obtain ⟨xs0, hxs0⟩ : ∃ xs, xs = sched1 bs 64 := ⟨_, rfl⟩
      have hl0 : xs0.length = 64 := by rw [hxs0]; exact sched1_length _ _
      rw [← hxs0] at HI
      have HL0 := Aside0.mk hl0
      have HX0 := Aside0.mk hxs0
      clear hl0 hxs0 hd
      go_loopw [6] (fun v6 wr => ∃ k : Nat, k ≤ 48 ∧ v6 = .int .i64 (16 + k : Nat) ∧ Aside0 (IsWords wr g 258 (sched2 xs0 k)) ∧ Aside0 (Below w.heap.size w wr)) (fun v6 _ => 64 - (intOf v6).toNat)
      case atStart => exact ⟨0, by omega, rfl, HI, HB⟩
      case round =>
        obtain ⟨k, hk, rfl, HI, HB⟩ := hrel
        by_cases hlt : k < 48
        · obtain ⟨j, hj⟩ : ∃ j, j = 16 + k := ⟨_, rfl⟩
          rw [← hj]
          obtain ⟨xs, hxs⟩ : ∃ xs, xs = sched2 xs0 k := ⟨_, rfl⟩
          rw [← hxs] at HI
          have hxl : xs.length = 64 := by rw [hxs]; exact sched2_length xs0 k HL0.out
          have HXS := Aside0.mk hxs
          have HJ := Aside0.mk hj
          have j0 : 16 ≤ j := by omega
          have j1 : j < 64 := by omega
          obtain ⟨x2, hx2⟩ : ∃ x, x = xs.getD (j - 2) 0 := ⟨_, rfl⟩
          obtain ⟨x7, hx7⟩ : ∃ x, x = xs.getD (j - 7) 0 := ⟨_, rfl⟩
          obtain ⟨x15, hx15⟩ : ∃ x, x = xs.getD (j - 15) 0 := ⟨_, rfl⟩
          obtain ⟨x16, hx16⟩ : ∃ x, x = xs.getD (j - 16) 0 := ⟨_, rfl⟩
          obtain ⟨j2, hj2⟩ : ∃ x, x = j - 2 := ⟨_, rfl⟩
          have c2 := HI.out.cell (j - 2) (by omega)
          rw [← hj2] at c2 hx2
          have HJ2 := Aside0.mk hj2
          clear hj2
          obtain ⟨j7, hj7⟩ : ∃ x, x = j - 7 := ⟨_, rfl⟩
          have c7 := HI.out.cell (j - 7) (by omega)
          rw [← hj7] at c7 hx7
          have HJ7 := Aside0.mk hj7
          clear hj7
          obtain ⟨j15, hj15⟩ : ∃ x, x = j - 15 := ⟨_, rfl⟩
          have c15 := HI.out.cell (j - 15) (by omega)
          rw [← hj15] at c15 hx15
          have HJ15 := Aside0.mk hj15
          clear hj15
          obtain ⟨j16, hj16⟩ : ∃ x, x = j - 16 := ⟨_, rfl⟩
          have c16 := HI.out.cell (j - 16) (by omega)
          rw [← hj16] at c16 hx16
          have HJ16 := Aside0.mk hj16
          clear hj16
          rw [← hx2] at c2
          rw [← hx7] at c7
          rw [← hx15] at c15
          rw [← hx16] at c16
          have hf := HI.out.frozen j
          have hcj := HI.out.cell j (by omega)
          have HX := Aside0.mk (And.intro hx2 (And.intro hx7 (And.intro hx15 hx16)))
          have G1 := Aside0.mk (gamma_some x2 17 19 10 (by omega))
          have G2 := Aside0.mk (gamma_some x15 7 18 3 (by omega))
          obtain ⟨y1, hy1⟩ : ∃ y, y = (sha_gamma.f x2 17 19 10).getD 0 := ⟨_, rfl⟩
          obtain ⟨y2, hy2⟩ : ∃ y, y = (sha_gamma.f x15 7 18 3).getD 0 := ⟨_, rfl⟩
          rw [← hy1] at G1
          rw [← hy2] at G2
          have HY := Aside0.mk (And.intro hy1 hy2)
          have HXL := Aside0.mk hxl
          have HK := Aside0.mk hlt
          clear hj hxs hx2 hx7 hx15 hx16 hy1 hy2 hxl hlt
          have hd : decide ((j : Int) < 64) = true := by simp; omega
          have pj : 0 ≤ (j : Int) := by omega
          have qj : (j : Int) < 64 := by omega
          go_wp2_with fail
          have w2 : IntKind.i64.wrap (j2 : Int) = (j2 : Int) := by have := HJ2.out; exact IntWalk.i64_in _ ⟨by omega, by omega⟩
          have q2 : (j2 : Int) < 64 := by have := HJ2.out; omega
          have p2 : 0 ≤ (j2 : Int) := by omega
          have e2 : (j : Int) - 2 = (j2 : Int) := by have := HJ2.out; omega
          have w7 : IntKind.i64.wrap (j7 : Int) = (j7 : Int) := by have := HJ7.out; exact IntWalk.i64_in _ ⟨by omega, by omega⟩
          have q7 : (j7 : Int) < 64 := by have := HJ7.out; omega
          have p7 : 0 ≤ (j7 : Int) := by omega
          have e7 : (j : Int) - 7 = (j7 : Int) := by have := HJ7.out; omega
          have w15 : IntKind.i64.wrap (j15 : Int) = (j15 : Int) := by have := HJ15.out; exact IntWalk.i64_in _ ⟨by omega, by omega⟩
          have q15 : (j15 : Int) < 64 := by have := HJ15.out; omega
          have p15 : 0 ≤ (j15 : Int) := by omega
          have e15 : (j : Int) - 15 = (j15 : Int) := by have := HJ15.out; omega
          have w16 : IntKind.i64.wrap (j16 : Int) = (j16 : Int) := by have := HJ16.out; exact IntWalk.i64_in _ ⟨by omega, by omega⟩
          have q16 : (j16 : Int) < 64 := by have := HJ16.out; omega
          have p16 : 0 ≤ (j16 : Int) := by omega
          have e16 : (j : Int) - 16 = (j16 : Int) := by have := HJ16.out; omega
          go_region_held3 (fun w' => w'.cell? ⟨g, j2, none⟩ = some (.int .u32 x2) ∧ w'.cell? ⟨g, j7, none⟩ = some (.int .u32 x7) ∧ w'.cell? ⟨g, j15, none⟩ = some (.int .u32 x15) ∧ w'.cell? ⟨g, j16, none⟩ = some (.int .u32 x16)) (first | go_keep | exact ⟨cell_set_ne (by have := HJ2.out; omega) _ c2, cell_set_ne (by have := HJ7.out; omega) _ c7, cell_set_ne (by have := HJ15.out; omega) _ c15, cell_set_ne (by have := HJ16.out; omega) _ c16⟩) (first | (go_at_call 224; ((with_reducible refine (sha_gamma.calls x2 17 19 10 y1 _ G1.out).mono ?_); rintro e w' ⟨rfl, ⟨m1, rfl⟩⟩)) | (go_at_call 224; ((with_reducible refine (sha_gamma.calls x15 7 18 3 y2 _ G2.out).mono ?_); rintro e w' ⟨rfl, ⟨m2, rfl⟩⟩)))
          go_wp2_with fail
          go_roundw
          case rel =>
            have hX := HX.out
            have hY := HY.out
            have hv : (((y1 + x7) % 4294967296 + y2) % 4294967296 + x16) % 4294967296 = sched2At (sched2 xs0 k) (k + 16) := by
              unfold sched2At
              rw [← HXS.out, show k + 16 = j from by rw [HJ.out]; omega, ← HJ2.out, ← HJ7.out, ← HJ15.out, ← HJ16.out, ← hX.1, ← hX.2.1, ← hX.2.2.1, ← hX.2.2.2, ← hY.1, ← hY.2]
            refine ⟨k + 1, by have := HK.out; omega, by rw [HJ.out]; go_num, ⟨?_⟩, ⟨(pw_below_drewN HB.out _).setCell (by show w.heap.size ≤ g; rw [HG.out]; omega) _⟩⟩
            rw [hv]
            have h1 := (HI.out.drewN (1 + m1 + m2)).set j (sched2At (sched2 xs0 k) (k + 16))
            have h2 : sched2 xs0 (k + 1) = xs.set j (sched2At (sched2 xs0 k) (k + 16)) := by
              simp only [sched2]
              rw [← HXS.out, show k + 16 = j from by rw [HJ.out]; omega]
            rw [h2]
            exact h1
          case measure => simp [intOf]; have := HJ.out; omega
        · have hd : decide (((16 + k : Nat) : Int) < 64) = false := by simp; omega
          obtain rfl : k = 48 := by omega
          go_wp2_with fail
          go_ret
          rw [← HG.out]
          refine ⟨rfl, ?_, by rw [HG.out]; exact HB.out⟩
          unfold schedule
          rw [← HX0.out]
          exact HI.out
end Go.Proofs.YtbedgjjiinhpkaaDoor.P
end
