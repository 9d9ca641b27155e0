/- Lemmas of this claim, part 17. -/
import Derived.Test.YteamljekjncbfaaDoorPartSeekOne8
import Derived.Test.YteamljekjncbfaaDoorPartSeekOne12
import Derived.Test.YteamljekjncbfaaDoorPartSeekOne14
import Derived.Test.YteamljekjncbfaaDoorPartSeekOne15
import Derived.Test.YteamljekjncbfaaDoorPartSeekOne16
import Derived.WalkSpells
import Derived.WalkLawsBesides
import Derived.Test.YteamljekjncbfaaDoorPartSeekOne2
import Derived.IntWalk
import Derived.Deep.RegionHeld
section
set_option linter.unusedVariables false
set_option linter.unusedSimpArgs false
namespace Go.Proofs.YteamljekjncbfaaDoor.Pure
open Go.RowKit Go.Proofs.YteamljekjncbfaaDoor.P Go.Proofs.YteamljekjncbfaaDoorW.PrintWords Go.Proofs.YteamljekjncbfaaDoorW.PrintLast Go.Proofs.YteamljekjncbfaaDoorW.PrintMore
abbrev Rec := S40
def linksN (e : Int) : Nat := if e < 1 then 0 else vz e.toNat + 1
theorem linksN_le (e : Int) (h : e < 9223372036854775808) : linksN e ≤ 63 := by
  unfold linksN
  split
  · omega
  · have := (vz_spec e.toNat (by omega) (by omega)).1
    omega
theorem record_links_f (e : Int) (h : e < 9223372036854775808) : record_links.f e = some (linksN e : Int) := by
  unfold record_links.f linksN
  by_cases h1 : e < 1
  · rw [if_pos h1, if_pos h1]
    rfl
  · rw [if_neg h1, if_neg h1]
    obtain ⟨f, rfl⟩ := Int.eq_ofNat_of_zero_le (show 0 ≤ e by omega)
    have hv := (vz_spec f (by omega) (by omega)).1
    rw [tz_f f (by omega)]
    simp only [Option.bind_some]
    rw [wrap64_id _ (by omega), Int.toNat_natCast]
    rfl
theorem rcount_l0 (f : Nat) (h0 : 0 < f) (h1 : f < 9223372036854775808) : ∀ (d k i : Nat), i ≤ vz f + 1 → vz f + 1 - i = d → d < k →
    annalsref13_Links.l0 k (f : Int) (i : Int) (wrap64 (p2 i : Int)) = some ((vz f + 1 : Nat) : Int) := by
  obtain ⟨hv, hle⟩ := vz_spec f h0 h1
  intro d
  induction d with
  | zero =>
    intro k i hi hd hk
    obtain ⟨k, rfl⟩ : ∃ m, k = m + 1 := ⟨k - 1, by omega⟩
    obtain rfl : i = vz f + 1 := by omega
    simp only [annalsref13_Links.l0]
    by_cases h62 : vz f = 62
    · have e : wrap64 (p2 (vz f + 1) : Int) = -9223372036854775808 := by rw [h62, p2_63]; unfold wrap64; omega
      rw [e, if_neg (by decide)]
    · have h2 := p2_mono (show vz f + 1 ≤ 62 by omega)
      rw [p2_62] at h2
      have e : wrap64 (p2 (vz f + 1) : Int) = (p2 (vz f + 1) : Int) := by unfold wrap64; omega
      have hp : 0 < p2 (vz f + 1) := p2_pos _
      rw [e, if_pos (by omega)]
      by_cases hlt : p2 (vz f + 1) ≤ f
      · rw [if_pos (by omega), if_neg (by omega), if_neg]
        intro h
        have h3 : f % p2 (vz f + 1) = 0 := by
          have := h
          rw [Int.tmod_eq_emod_of_nonneg (by omega)] at this
          omega
        have := vz_ge h0 h1 (Nat.dvd_of_mod_eq_zero h3)
        omega
      · rw [if_neg (by omega)]
  | succ d ih =>
    intro k i hi hd hk
    obtain ⟨k, rfl⟩ : ∃ m, k = m + 1 := ⟨k - 1, by omega⟩
    have hp := pow_le_of h0 h1 (show i ≤ vz f by omega)
    have hp0 : 0 < p2 i := p2_pos _
    have e : wrap64 (p2 i : Int) = (p2 i : Int) := by unfold wrap64; omega
    simp only [annalsref13_Links.l0]
    rw [e, if_pos (by omega), if_pos (by omega), if_neg (by omega), if_pos]
    · have e2 : (2 : Int) * (p2 i : Int) = (p2 (i + 1) : Int) := by rw [p2_succ]; omega
      rw [wrap64_id _ (by omega), e2, show ((i : Int) + 1) = ((i + 1 : Nat) : Int) by omega]
      exact ih k (i + 1) (by omega) (by omega) (by omega)
    · rw [Int.tmod_eq_emod_of_nonneg (by omega)]
      have := Nat.mod_eq_zero_of_dvd (vz_dvd h0 h1 (show i ≤ vz f by omega))
      omega
theorem rcount_f (e : Int) (h : e < 9223372036854775808) (k : Nat) (hk : 70 < k) : annalsref13_Links.f k e = some (linksN e : Int) := by
  unfold linksN annalsref13_Links.f
  by_cases h1 : e < 1
  · rw [if_pos h1]
    obtain ⟨k, rfl⟩ : ∃ m, k = m + 1 := ⟨k - 1, by omega⟩
    simp only [annalsref13_Links.l0]
    rw [if_pos (by omega), if_neg (by omega)]
    rfl
  · rw [if_neg h1]
    obtain ⟨f, rfl⟩ := Int.eq_ofNat_of_zero_le (show 0 ≤ e by omega)
    have hv := (vz_spec f (by omega) (by omega)).1
    have := rcount_l0 f (by omega) (by omega) (vz f + 1) k 0 (by omega) (by omega) (by omega)
    rw [p2_0, show wrap64 ((1 : Nat) : Int) = 1 from by unfold wrap64; omega] at this
    rw [Int.toNat_natCast]
    exact this
def CanR (size : Int) (r : Rec) : Prop := (1 ≤ size ∧ size ≤ 32) ∧ (0 ≤ r.f0 ∧ r.f0 ≤ 255) ∧ (0 ≤ r.f1 ∧ r.f1 ≤ 1125899906842624) ∧ (0 ≤ r.f3 ∧ r.f3 ≤ 32) ∧ ((r.f2.length : Int) = size ∧ (r.f4.length : Int) = size) ∧ r.f5.length = linksN r.f0 ∧ ∀ p ∈ r.f5, (p.length : Int) = size
instance (size : Int) (r : Rec) : Decidable (CanR size r) := by unfold CanR; infer_instance
theorem within_f (a b : Int) : record_within.f a b = some (decide (0 ≤ a ∧ a ≤ b)) := by
  unfold record_within.f
  by_cases h : a ≥ 0
  · rw [if_pos h]
    congr 1
    simp [h]
  · rw [if_neg h, decide_eq_false (by omega)]
theorem sized_l0 (a : Int) (l : List (List Int)) (hl : l.length < 1000000) : ∀ (d k i : Nat), i + d = l.length → d < k →
    record_sized.l0 k a l (l.length : Int) (i : Int) = some (decide (∀ p ∈ l.drop i, (p.length : Int) = a)) := by
  intro d
  induction d with
  | zero =>
    intro k i hi hk
    obtain ⟨k, rfl⟩ : ∃ m, k = m + 1 := ⟨k - 1, by omega⟩
    simp only [record_sized.l0]
    rw [if_neg (by omega), List.drop_of_length_le (by omega)]
    simp
  | succ d ih =>
    intro k i hi hk
    obtain ⟨k, rfl⟩ : ∃ m, k = m + 1 := ⟨k - 1, by omega⟩
    have hlt : i < l.length := by omega
    simp only [record_sized.l0]
    rw [if_pos (by omega), if_pos (by omega), if_pos (by omega), rd_L1_at _ _ hlt, List.drop_eq_getElem_cons hlt]
    by_cases h : (l[i].length : Int) = a
    · rw [if_pos h, wrap64_id _ (by omega), show ((i : Int) + 1) = ((i + 1 : Nat) : Int) by omega, ih k (i + 1) (by omega) (by omega)]
      exact congrArg some (decide_eq_decide.2 ⟨fun h2 => List.forall_mem_cons.2 ⟨h, h2⟩, fun h2 => (List.forall_mem_cons.1 h2).2⟩)
    · rw [if_neg h]
      rw [decide_eq_false]
      intro h2
      exact h (h2 l[i] List.mem_cons_self)
theorem sized_f (a : Int) (l : List (List Int)) (hl : l.length < 1000000) (k : Nat) (hk : l.length < k) : record_sized.f k a l = some (decide (∀ p ∈ l, (p.length : Int) = a)) := by
  unfold record_sized.f
  have := sized_l0 a l hl l.length k 0 (by omega) hk
  exact this
theorem can_f (size : Int) (r : Rec) (hs : -9223372036854775808 ≤ size ∧ size < 9223372036854775808) (he : r.f0 < 9223372036854775808) (k : Nat) (hk : 70 < k) :
    record_Can.f k size r.f0 r.f1 r.f2 r.f3 r.f4 r.f5 = some (decide (CanR size r)) := by
  unfold record_Can.f
  rw [within_f, within_f, within_f, within_f, record_links_f _ he, sized_f size [r.f2, r.f4] (by simp) k (by simp; omega)]
  simp only [Option.bind_some]
  by_cases h1 : 1 ≤ size ∧ size ≤ 32
  · rw [if_pos (by rw [wrap64_id _ (by omega)]; exact decide_eq_true (by omega))]
    by_cases h2 : 0 ≤ r.f0 ∧ r.f0 ≤ 255
    · rw [if_pos (decide_eq_true h2)]
      by_cases h3 : 0 ≤ r.f1 ∧ r.f1 ≤ 1125899906842624
      · rw [if_pos (decide_eq_true h3)]
        by_cases h4 : 0 ≤ r.f3 ∧ r.f3 ≤ 32
        · rw [if_pos (decide_eq_true h4)]
          by_cases h5 : (r.f2.length : Int) = size ∧ (r.f4.length : Int) = size
          · rw [if_pos (decide_eq_true (by simpa using h5))]
            by_cases h6 : r.f5.length = linksN r.f0
            · have := linksN_le r.f0 he
              rw [if_pos (by omega), sized_f size r.f5 (by omega) k (by omega)]
              simp only [Option.bind_some]
              congr 1
              unfold CanR
              simp only [h1, h2, h3, h4, h5, h6, true_and, and_self]
            · rw [if_neg (by omega), decide_eq_false (fun h => h6 h.2.2.2.2.2.1)]
          · rw [if_neg (by simpa using h5), decide_eq_false (fun h => h5 h.2.2.2.2.1)]
        · rw [if_neg (by simpa using h4), decide_eq_false (fun h => h4 h.2.2.2.1)]
      · rw [if_neg (by simpa using h3), decide_eq_false (fun h => h3 h.2.2.1)]
    · rw [if_neg (by simpa using h2), decide_eq_false (fun h => h2 h.2.1)]
  · rw [if_neg (by simp only [decide_eq_true_eq]; unfold wrap64; omega), decide_eq_false (fun h => h1 h.1)]
theorem rcan_f (size : Int) (r : Rec) (he : r.f0 < 9223372036854775808) (k : Nat) (hk : 70 < k) :
    annalsref13_Can.f k size r.f0 r.f1 r.f2 r.f3 r.f4 r.f5 = some (decide (CanR size r)) := by
  unfold annalsref13_Can.f
  rw [rcount_f _ he k hk]
  simp only [Option.bind_some]
  by_cases hb : canBad size r.f0 r.f1 r.f2 r.f3 r.f4
  · rw [if_pos hb, decide_eq_false]
    intro h
    unfold CanR at h
    unfold canBad at hb
    omega
  · rw [if_neg hb]
    unfold canBad at hb
    by_cases h6 : r.f5.length = linksN r.f0
    · rw [if_neg (by omega)]
      congr 1
      rw [Bool.eq_iff_iff, List.all_eq_true, decide_eq_true_eq]
      unfold CanR P.sized
      constructor
      · intro h
        exact ⟨by omega, by omega, by omega, by omega, by omega, h6, fun p hp => of_decide_eq_true (h p hp)⟩
      · intro h p hp
        exact decide_eq_true (h.2.2.2.2.2.2 p hp)
    · rw [if_pos (by omega), decide_eq_false (fun h => h6 h.2.2.2.2.2.1)]
def nat62 (a : Int) : Nat := (mn (mx a 0) 4611686018427387904).toNat
def headR (r : Rec) : List Int := bytesB (uintB (bytesB (uintB (uintB [] (nat62 r.f0)) (nat62 r.f1)) r.f2) (nat62 r.f3)) r.f4
def encR (r : Rec) : List Int := r.f5.foldl bytesB (headR r)
theorem nat62_lt (a : Int) : nat62 a < 9223372036854775808 := by
  have : ((mn (mx a 0) 4611686018427387904) : Int) ≤ 4611686018427387904 := by unfold mn; split <;> omega
  unfold nat62
  omega
theorem headR_length (size : Int) (r : Rec) (h : CanR size r) : (headR r).length ≤ 200 := by
  have h1 := uintB_length [] (nat62 r.f0) (nat62_lt _)
  have h2 := uintB_length (uintB [] (nat62 r.f0)) (nat62 r.f1) (nat62_lt _)
  have hs := h.1
  have hl := h.2.2.2.2.1
  have h3 := bytesB_length (uintB (uintB [] (nat62 r.f0)) (nat62 r.f1)) r.f2 (by omega)
  have h4 := uintB_length (bytesB (uintB (uintB [] (nat62 r.f0)) (nat62 r.f1)) r.f2) (nat62 r.f3) (nat62_lt _)
  have h5 := bytesB_length (uintB (bytesB (uintB (uintB [] (nat62 r.f0)) (nat62 r.f1)) r.f2) (nat62 r.f3)) r.f4 (by omega)
  unfold headR
  simp only [List.length_nil] at h1
  omega
theorem enc_l0 (l : List (List Int)) (hl : l.length ≤ 100) (hp : ∀ p ∈ l, p.length ≤ 32) : ∀ (d k i : Nat) (acc : List Int), i + d = l.length → d + 20 < k → acc.length ≤ 200 + 41 * i →
    record_Encode.l0 k acc l (l.length : Int) (i : Int) = some ((l.drop i).foldl bytesB acc, 0) := by
  intro d
  induction d with
  | zero =>
    intro k i acc hi hk ha
    obtain ⟨k, rfl⟩ : ∃ m, k = m + 1 := ⟨k - 1, by omega⟩
    simp only [record_Encode.l0]
    rw [if_neg (by omega), List.drop_of_length_le (by omega)]
    rfl
  | succ d ih =>
    intro k i acc hi hk ha
    obtain ⟨k, rfl⟩ : ∃ m, k = m + 1 := ⟨k - 1, by omega⟩
    have hlt : i < l.length := by omega
    have h32 := hp l[i] (List.getElem_mem hlt)
    simp only [record_Encode.l0]
    rw [if_pos (by omega), if_pos (by omega), if_pos (by omega), rd_L1_at _ _ hlt, List.drop_eq_getElem_cons hlt, bytes_f _ _ (by omega) (by omega) k (by omega)]
    simp only [Option.bind_some]
    have := bytesB_length acc l[i] (by omega)
    rw [wrap64_id _ (by omega), show ((i : Int) + 1) = ((i + 1 : Nat) : Int) by omega, ih k (i + 1) _ (by omega) (by omega) (by omega)]
    rfl
theorem renc_l0 (l : List (List Int)) (hl : l.length ≤ 100) (hp : ∀ p ∈ l, p.length ≤ 32) : ∀ (d k i : Nat) (acc : List Int), i + d = l.length → d + 20 < k → acc.length ≤ 200 + 41 * i →
    annalsref13_Encode.l0 k acc l (l.length : Int) (i : Int) = some ((l.drop i).foldl bytesB acc, 0) := by
  intro d
  induction d with
  | zero =>
    intro k i acc hi hk ha
    obtain ⟨k, rfl⟩ : ∃ m, k = m + 1 := ⟨k - 1, by omega⟩
    simp only [annalsref13_Encode.l0]
    rw [if_neg (by omega), List.drop_of_length_le (by omega)]
    rfl
  | succ d ih =>
    intro k i acc hi hk ha
    obtain ⟨k, rfl⟩ : ∃ m, k = m + 1 := ⟨k - 1, by omega⟩
    have hlt : i < l.length := by omega
    have h32 := hp l[i] (List.getElem_mem hlt)
    simp only [annalsref13_Encode.l0]
    rw [if_pos (by omega), if_pos (by omega), if_pos (by omega), rd_L1_at _ _ hlt, List.drop_eq_getElem_cons hlt, rbytes_f _ _ (by omega) (by omega) k (by omega)]
    simp only [Option.bind_some]
    have := bytesB_length acc l[i] (by omega)
    rw [wrap64_id _ (by omega), show ((i : Int) + 1) = ((i + 1 : Nat) : Int) by omega, ih k (i + 1) _ (by omega) (by omega) (by omega)]
    rfl
theorem can_links (size : Int) (r : Rec) (h : CanR size r) : r.f5.length ≤ 63 ∧ ∀ p ∈ r.f5, p.length ≤ 32 := by
  have h0 := h.2.1
  have hs := h.1
  have h1 := linksN_le r.f0 (by omega)
  have h6 := h.2.2.2.2.2.1
  exact ⟨by omega, fun p hp => by have := h.2.2.2.2.2.2 p hp; omega⟩
theorem encode_f (size : Int) (r : Rec) (hs : -9223372036854775808 ≤ size ∧ size < 9223372036854775808) (he : r.f0 < 9223372036854775808) (k : Nat) (hk : 100 < k) :
    record_Encode.f k size r.f0 r.f1 r.f2 r.f3 r.f4 r.f5 = some (if CanR size r then (encR r, 0) else ([], 1)) := by
  unfold record_Encode.f
  rw [can_f size r hs he k (by omega)]
  simp only [Option.bind_some]
  by_cases h : CanR size r
  · rw [if_pos (decide_eq_true h), if_pos h]
    have h1 := uintB_length [] (nat62 r.f0) (nat62_lt _)
    have h2 := uintB_length (uintB [] (nat62 r.f0)) (nat62 r.f1) (nat62_lt _)
    have hs := h.1
    have hl := h.2.2.2.2.1
    have h3 := bytesB_length (uintB (uintB [] (nat62 r.f0)) (nat62 r.f1)) r.f2 (by omega)
    have h4 := uintB_length (bytesB (uintB (uintB [] (nat62 r.f0)) (nat62 r.f1)) r.f2) (nat62 r.f3) (nat62_lt _)
    simp only [List.length_nil] at h1
    have e1 : codec_Uint.f k [] r.f0 = some (uintB [] (nat62 r.f0)) := uint_f _ _ (by simp) k (by omega)
    have e2 : codec_Uint.f k (uintB [] (nat62 r.f0)) r.f1 = some (uintB (uintB [] (nat62 r.f0)) (nat62 r.f1)) := uint_f _ _ (by omega) k (by omega)
    have e3 := bytes_f (uintB (uintB [] (nat62 r.f0)) (nat62 r.f1)) r.f2 (by omega) (by omega) k (by omega)
    have e4 : codec_Uint.f k (bytesB (uintB (uintB [] (nat62 r.f0)) (nat62 r.f1)) r.f2) r.f3 = some (uintB (bytesB (uintB (uintB [] (nat62 r.f0)) (nat62 r.f1)) r.f2) (nat62 r.f3)) := uint_f _ _ (by omega) k (by omega)
    have e5 := bytes_f (uintB (bytesB (uintB (uintB [] (nat62 r.f0)) (nat62 r.f1)) r.f2) (nat62 r.f3)) r.f4 (by omega) (by omega) k (by omega)
    rw [e1, Option.bind_some, e2, Option.bind_some, e3, Option.bind_some, e4, Option.bind_some, e5, Option.bind_some]
    have hk6 := can_links size r h
    have := enc_l0 r.f5 (by omega) hk6.2 r.f5.length k 0 (headR r) (by omega) (by omega) (by have := headR_length size r h; omega)
    exact this
  · rw [if_neg (by simpa using h), if_neg h]
theorem rencode_f (size : Int) (r : Rec) (he : r.f0 < 9223372036854775808) (k : Nat) (hk : 100 < k) :
    annalsref13_Encode.f k size r.f0 r.f1 r.f2 r.f3 r.f4 r.f5 = some (if CanR size r then (encR r, 0) else ([], 1)) := by
  unfold annalsref13_Encode.f
  rw [rcan_f size r he k (by omega)]
  simp only [Option.bind_some]
  by_cases h : CanR size r
  · rw [if_pos (decide_eq_true h), if_pos h]
    have h1 := uintB_length [] (nat62 r.f0) (nat62_lt _)
    have h2 := uintB_length (uintB [] (nat62 r.f0)) (nat62 r.f1) (nat62_lt _)
    have hs := h.1
    have hl := h.2.2.2.2.1
    have h3 := bytesB_length (uintB (uintB [] (nat62 r.f0)) (nat62 r.f1)) r.f2 (by omega)
    have h4 := uintB_length (bytesB (uintB (uintB [] (nat62 r.f0)) (nat62 r.f1)) r.f2) (nat62 r.f3) (nat62_lt _)
    simp only [List.length_nil] at h1
    have e1 : annalsref04_Uint.f k [] r.f0 = some (uintB [] (nat62 r.f0)) := ruint_f _ _ (by simp) k (by omega)
    have e2 : annalsref04_Uint.f k (uintB [] (nat62 r.f0)) r.f1 = some (uintB (uintB [] (nat62 r.f0)) (nat62 r.f1)) := ruint_f _ _ (by omega) k (by omega)
    have e3 := rbytes_f (uintB (uintB [] (nat62 r.f0)) (nat62 r.f1)) r.f2 (by omega) (by omega) k (by omega)
    have e4 : annalsref04_Uint.f k (bytesB (uintB (uintB [] (nat62 r.f0)) (nat62 r.f1)) r.f2) r.f3 = some (uintB (bytesB (uintB (uintB [] (nat62 r.f0)) (nat62 r.f1)) r.f2) (nat62 r.f3)) := ruint_f _ _ (by omega) k (by omega)
    have e5 := rbytes_f (uintB (bytesB (uintB (uintB [] (nat62 r.f0)) (nat62 r.f1)) r.f2) (nat62 r.f3)) r.f4 (by omega) (by omega) k (by omega)
    rw [e1, Option.bind_some, e2, Option.bind_some, e3, Option.bind_some, e4, Option.bind_some, e5, Option.bind_some]
    have hk6 := can_links size r h
    have := renc_l0 r.f5 (by omega) hk6.2 r.f5.length k 0 (headR r) (by omega) (by omega) (by have := headR_length size r h; omega)
    exact this
  · rw [if_neg (by simpa using h), if_neg h]
structure RecOk (r : Rec) : Prop where
  e0 : -9223372036854775808 ≤ r.f0
  e1 : r.f0 < 9223372036854775808
  t2 : BytesOk r.f2
  t4 : BytesOk r.f4
  t5 : ∀ p ∈ r.f5, BytesOk p
theorem foldl_ok (l : List (List Int)) (hp : ∀ p ∈ l, p.length ≤ 32) (hb : ∀ p ∈ l, BytesOk p) : ∀ acc : List Int, BytesOk acc → BytesOk (l.foldl bytesB acc) := by
  induction l with
  | nil => intro acc h; exact h
  | cons p l ih =>
    intro acc h
    exact ih (fun q hq => hp q (List.mem_cons_of_mem _ hq)) (fun q hq => hb q (List.mem_cons_of_mem _ hq)) _ (bytesB_ok _ _ (by have := hp p List.mem_cons_self; omega) h (hb p List.mem_cons_self))
theorem encR_ok (size : Int) (r : Rec) (h : CanR size r) (ho : RecOk r) : BytesOk (encR r) := by
  have hs := h.1
  have hl := h.2.2.2.2.1
  refine foldl_ok _ (can_links size r h).2 ho.t5 _ ?_
  unfold headR
  exact bytesB_ok _ _ (by omega) (uintB_ok _ _ (nat62_lt _) (bytesB_ok _ _ (by omega) (uintB_ok _ _ (nat62_lt _) (uintB_ok _ _ (nat62_lt _) (by intro x hx; cases hx))) ho.t2)) ho.t4
def hashR (size : Int) (r : Rec) : List Int := if CanR size r then hashB size 5 [encR r] else []
theorem hashR_f (size : Int) (r : Rec) (hs : -9223372036854775808 ≤ size ∧ size < 9223372036854775808) (he : r.f0 < 9223372036854775808) (k : Nat) (hk : 100 < k) : record_Hash.f k size r.f0 r.f1 r.f2 r.f3 r.f4 r.f5 = some (hashR size r) := by
  unfold record_Hash.f hashR
  rw [encode_f size r hs he k hk]
  simp only [Option.bind_some]
  by_cases h : CanR size r
  · simp only [h, if_true]
    rw [hash_f size 5 [encR r] (by omega) (by simp) k (by simp; omega)]
    rfl
  · simp only [h, if_false]
    rw [if_neg (by decide)]
theorem rhashR_f (size : Int) (r : Rec) (ho : RecOk r) (k : Nat) (hk : 100 < k) : annalsref13_Hash.f k size r.f0 r.f1 r.f2 r.f3 r.f4 r.f5 = some (hashR size r) := by
  unfold annalsref13_Hash.f hashR
  rw [rencode_f size r ho.e1 k hk]
  simp only [Option.bind_some]
  by_cases h : CanR size r
  · simp only [h, if_true]
    rw [rhash_f size 5 [encR r] (by omega) (fun p hp => by obtain rfl := List.mem_singleton.1 hp; exact encR_ok size r h ho) (by simp) k (by simp; omega)]
    rfl
  · simp only [h, if_false]
    rw [if_neg (by decide)]
theorem encR_short (size : Int) (r : Rec) (h : CanR size r) : (encR r).length ≤ 3000 := by
  have hk := can_links size r h
  have hh := headR_length size r h
  have hf (l : List (List Int)) (hp : ∀ p ∈ l, p.length ≤ 32) : ∀ acc : List Int, (l.foldl bytesB acc).length ≤ acc.length + 41 * l.length := by
    induction l with
    | nil => intro acc; simp
    | cons p l ih =>
      intro acc
      have h1 := ih (fun q hq => hp q (List.mem_cons_of_mem _ hq)) (bytesB acc p)
      have h2 := hp p List.mem_cons_self
      have h3 := bytesB_length acc p (by omega)
      simp only [List.foldl_cons, List.length_cons]
      omega
  have := hf r.f5 hk.2 (headR r)
  unfold encR
  omega
theorem hashR_length (size : Int) (r : Rec) (h : CanR size r) : ((hashR size r).length : Int) = size := by
  unfold hashR hashB
  have hl : [encR r].any isLong = false := by
    have := encR_short size r h
    simp [isLong]
    omega
  have hs := h.1
  rw [if_pos h, hl, if_neg (by simp), List.length_take, shaSum_length]
  unfold mn mx
  split <;> split <;> omega
theorem hashR_none (size : Int) (r : Rec) (h : ¬ CanR size r) : hashR size r = [] := if_neg h
theorem hashR_some (size : Int) (r : Rec) (h : CanR size r) : hashR size r ≠ [] := by
  intro he
  have := hashR_length size r h
  have hs := h.1
  rw [he] at this
  simp at this
  omega
end Go.Proofs.YteamljekjncbfaaDoor.Pure
end
section
set_option linter.unusedVariables false
set_option linter.unusedSimpArgs false
namespace Go.Proofs.YteamljekjncbfaaDoor.P
open Go.RowKit Go.Proofs.YteamljekjncbfaaDoor.Pure Go.Proofs.YteamljekjncbfaaDoorW.PrintWords Go.Proofs.YteamljekjncbfaaDoorW.PrintLast Go.Proofs.YteamljekjncbfaaDoorW.PrintMore
structure Rows6 where
  A2 : Option Addr
  c2 : Nat
  A4 : Option Addr
  c4 : Nat
  A5 : Option Addr
  c5 : Nat
def recL (x : Rec) (p : Rows6) : List Value := [.int .i64 x.f0, .int .i64 x.f1, .slice p.A2 x.f2.length p.c2, .int .i64 x.f3, .slice p.A4 x.f4.length p.c4, .slice p.A5 x.f5.length p.c5]
structure RecC (w : World) (p : Rows6) (x : Rec) : Prop where
  l2 : x.f2.length ≤ p.c2
  g2 : Kd.C (Kd.int .u8) w p.A2 x.f2.length x.f2
  l4 : x.f4.length ≤ p.c4
  g4 : Kd.C (Kd.int .u8) w p.A4 x.f4.length x.f4
  l5 : x.f5.length ≤ p.c5
  g5 : Kd.C (Kd.slice 5 (Kd.int .u8)) w p.A5 x.f5.length x.f5
theorem RecC.below {w w1 : World} {p : Rows6} {x : Rec} (h : RecC w p x) (hb : Below w.heap.size w w1) : RecC w1 p x :=
  ⟨h.l2, Kd.C_below h.g2 hb, h.l4, Kd.C_below h.g4 hb, h.l5, Kd.C_below h.g5 hb⟩
def RecB (w : World) (g : Nat) (x : Rec) (p : Rows6) : Prop := w.heap[g]? = some (.cells (recL x p).toArray 40 (0, 0))
theorem RecB.below {w w1 : World} {g : Nat} {x : Rec} {p : Rows6} (h : RecB w g x p) (hb : Below w.heap.size w w1) : RecB w1 g x p := blk_below h hb
theorem RecB.lt {w : World} {g : Nat} {x : Rec} {p : Rows6} (h : RecB w g x p) : g < w.heap.size := blk_lt h
theorem RecB.cells {w : World} {g : Nat} {x : Rec} {p : Rows6} (h : RecB w g x p) : w.cell? ⟨g, 0, none⟩ = some (.int .i64 x.f0) ∧ w.cell? ⟨g, 1, none⟩ = some (.int .i64 x.f1) ∧ w.cell? ⟨g, 2, none⟩ = some (.slice p.A2 x.f2.length p.c2) ∧
    w.cell? ⟨g, 3, none⟩ = some (.int .i64 x.f3) ∧ w.cell? ⟨g, 4, none⟩ = some (.slice p.A4 x.f4.length p.c4) ∧ w.cell? ⟨g, 5, none⟩ = some (.slice p.A5 x.f5.length p.c5) :=
  ⟨blk_cell h 0, blk_cell h 1, blk_cell h 2, blk_cell h 3, blk_cell h 4, blk_cell h 5⟩
theorem RecB.frozen {w : World} {g : Nat} {x : Rec} {p : Rows6} (h : RecB w g x p) : w.frozen? ⟨g, 0, none⟩ = false ∧ w.frozen? ⟨g, 1, none⟩ = false ∧ w.frozen? ⟨g, 2, none⟩ = false ∧ w.frozen? ⟨g, 3, none⟩ = false ∧ w.frozen? ⟨g, 4, none⟩ = false ∧ w.frozen? ⟨g, 5, none⟩ = false :=
  ⟨blk_frozen h 0, blk_frozen h 1, blk_frozen h 2, blk_frozen h 3, blk_frozen h 4, blk_frozen h 5⟩
def put6 (w : World) (g : Nat) (v0 v1 v2 v3 v4 v5 : Value) : World := (((((w.setCell ⟨g, 0, none⟩ v0).setCell ⟨g, 1, none⟩ v1).setCell ⟨g, 2, none⟩ v2).setCell ⟨g, 3, none⟩ v3).setCell ⟨g, 4, none⟩ v4).setCell ⟨g, 5, none⟩ v5
theorem put6_rec {w : World} {g : Nat} {x : Rec} {p : Rows6} (h : RecB w g x p) (y : Rec) (q : Rows6) : RecB (put6 w g (.int .i64 y.f0) (.int .i64 y.f1) (.slice q.A2 y.f2.length q.c2) (.int .i64 y.f3) (.slice q.A4 y.f4.length q.c4) (.slice q.A5 y.f5.length q.c5)) g y q :=
  blk_set (blk_set (blk_set (blk_set (blk_set (blk_set h 0 _) 1 _) 2 _) 3 _) 4 _) 5 _
theorem put6_far {w : World} {g k : Nat} (hne : k ≠ g) {x : Rec} {p : Rows6} (h : RecB w k x p) (v0 v1 v2 v3 v4 v5 : Value) : RecB (put6 w g v0 v1 v2 v3 v4 v5) k x p :=
  blk_far (blk_far (blk_far (blk_far (blk_far (blk_far h hne _) hne _) hne _) hne _) hne _) hne _
theorem put6_below {w0 w : World} {g base : Nat} (h : Below base w0 w) (hg : base ≤ g) (v0 v1 v2 v3 v4 v5 : Value) : Below base w0 (put6 w g v0 v1 v2 v3 v4 v5) :=
  Below.setCell (Below.setCell (Below.setCell (Below.setCell (Below.setCell (Below.setCell h hg _) hg _) hg _) hg _) hg _) hg _
def z6 : Rows6 := ⟨none, 0, none, 0, none, 0⟩
theorem RecC.zero (w : World) : RecC w z6 z40 := ⟨Nat.le_refl _, Kd.C_nil _ w, Nat.le_refl _, Kd.C_nil _ w, Nat.le_refl _, Kd.C_nil _ w⟩
theorem recB_new (w : World) (x : Rec) (p : Rows6) : RecB (w.alloc (.cells (recL x p).toArray 40)) w.heap.size x p := heap_alloc_new w _
theorem rec_at {w : World} {A : Option Addr} {n : Nat} {xs : List Rec} (h : Kd.C k40 w A n xs) (i : Nat) (hi : i < n) : ∃ (ad : Addr) (p : Rows6), A = some ad ∧ RecC w p (rd_T40 xs (i : Int)) ∧
    w.cell? (ad.add (i * 6)) = some (.int .i64 (rd_T40 xs (i : Int)).f0) ∧ w.cell? ⟨(ad.add (i * 6)).block, (ad.add (i * 6)).off + 1, none⟩ = some (.int .i64 (rd_T40 xs (i : Int)).f1) ∧ w.cell? ⟨(ad.add (i * 6)).block, (ad.add (i * 6)).off + 2, none⟩ = some (.slice p.A2 (rd_T40 xs (i : Int)).f2.length p.c2) ∧
    w.cell? ⟨(ad.add (i * 6)).block, (ad.add (i * 6)).off + 3, none⟩ = some (.int .i64 (rd_T40 xs (i : Int)).f3) ∧ w.cell? ⟨(ad.add (i * 6)).block, (ad.add (i * 6)).off + 4, none⟩ = some (.slice p.A4 (rd_T40 xs (i : Int)).f4.length p.c4) ∧ w.cell? ⟨(ad.add (i * 6)).block, (ad.add (i * 6)).off + 5, none⟩ = some (.slice p.A5 (rd_T40 xs (i : Int)).f5.length p.c5) := by
  have := at_T40 h (i : Int) (by omega) (by omega)
  obtain ⟨ad, A2, c2, A4, c4, A5, c5, e, h0, h1, h2, h3, h4, h5, l2, g2, l4, g4, l5, g5⟩ := this
  exact ⟨ad, ⟨A2, c2, A4, c4, A5, c5⟩, e, ⟨l2, g2, l4, g4, l5, g5⟩, h0, h1, h2, h3, h4, h5⟩
def hopE (e t : Int) : Nat := hop e.toNat t.toNat
def followS (size t : Int) : Rec → List Rec → Option Rec
  | x, [] => if x.f0 = t then some x else none
  | x, r :: rest => if x.f0 ≤ t then none else if r.f0 = x.f0 - (p2 (hopE x.f0 t) : Int) ∧ CanR size r ∧ hashR size r = rd_L1 x.f5 (hopE x.f0 t : Int) then followS size t r rest else none
def followR (size : Int) (head : Rec) (way : List Rec) (t : Int) : Option Rec := if CanR size head ∧ 0 ≤ t ∧ t ≤ head.f0 then followS size t head way else none
def handed (o : Option Rec) : Rec × Bool := match o with
  | some x => (x, true)
  | none => (z40, false)
theorem strNum_eq {a b : List Int} (ha : BytesOk a) (hb : BytesOk b) : ((strOfNums a).toList == (strOfNums b).toList) = decide (a = b) := by
  have hi : ∀ {a b : List Int}, BytesOk a → BytesOk b → (a.map fun n => UInt8.ofNat n.toNat) = (b.map fun n => UInt8.ofNat n.toNat) → a = b := by
    intro a
    induction a with
    | nil => intro b _ _ h; cases b with
      | nil => rfl
      | cons y b => simp at h
    | cons x a ih => intro b ha hb h; cases b with
      | nil => simp at h
      | cons y b =>
        simp only [List.map_cons, List.cons.injEq] at h
        have hx := ha x List.mem_cons_self
        have hy := hb y List.mem_cons_self
        have h1 := congrArg UInt8.toNat h.1
        simp only [UInt8.toNat_ofNat'] at h1
        have hxy : x = y := by omega
        rw [hxy, ih (fun z hz => ha z (List.mem_cons_of_mem _ hz)) (fun z hz => hb z (List.mem_cons_of_mem _ hz)) h.2]
  rw [ByteArray.toList_eq, ByteArray.toList_eq, strOfNums_data, strOfNums_data, Bool.eq_iff_iff, beq_iff_eq, decide_eq_true_eq]
  exact ⟨hi ha hb, fun h => by rw [h]⟩
theorem own_f (k : Nat) (x : Rec) (h2 : x.f2.length < 1000000) (h4 : x.f4.length < 1000000) (h5 : x.f5.length < 1000) (hp : ∀ p ∈ x.f5, p.length < 1000000) (hk : 1001 < k) :
    skip_own.f k x.f0 x.f1 x.f2 x.f3 x.f4 x.f5 = some (x.f0, x.f1, x.f2, x.f3, x.f4, x.f5) := by
  have hl : ∀ (d k i : Nat) (acc : List (List Int)), i + d = x.f5.length → d < k → acc.length = i →
      skip_own.l0 k acc x.f5 (x.f5.length : Int) (i : Int) x.f0 x.f1 x.f2 x.f3 x.f4 x.f5 = some (x.f0, x.f1, x.f2, x.f3, x.f4, acc ++ x.f5.drop i) := by
    intro d
    induction d with
    | zero =>
      intro k i acc hi hk ha
      obtain ⟨k, rfl⟩ : ∃ m, k = m + 1 := ⟨k - 1, by omega⟩
      simp only [skip_own.l0]
      rw [if_neg (by omega), List.drop_of_length_le (by omega), List.append_nil]
    | succ d ih =>
      intro k i acc hi hk ha
      obtain ⟨k, rfl⟩ : ∃ m, k = m + 1 := ⟨k - 1, by omega⟩
      have hlt : i < x.f5.length := by omega
      have hpl := hp x.f5[i] (List.getElem_mem hlt)
      simp only [skip_own.l0]
      rw [if_pos (by omega), if_pos (by omega), if_pos (by omega), rd_L1_at _ _ hlt]
      unfold bytes_Clone.f
      rw [if_pos (by omega)]
      simp only [Option.bind_some]
      rw [if_pos (by omega), wrap64_id _ (by omega), show ((i : Int) + 1) = ((i + 1 : Nat) : Int) by omega, ih k (i + 1) _ (by omega) (by omega) (by simp; omega), List.drop_eq_getElem_cons hlt]
      simp
  unfold skip_own.f bytes_Clone.f
  rw [if_pos (by omega), if_pos (by omega)]
  simp only [Option.bind_some]
  have := hl x.f5.length k 0 [] (by omega) (by omega) rfl
  exact this
theorem can_own (size : Int) (x : Rec) (h : CanR size x) (k : Nat) (hk : 1001 < k) : skip_own.f k x.f0 x.f1 x.f2 x.f3 x.f4 x.f5 = some (x.f0, x.f1, x.f2, x.f3, x.f4, x.f5) := by
  have h1 := can_links size x h
  have h2 := h.1
  have h3 := h.2.2.2.2.1
  exact own_f k x (by omega) (by omega) (by omega) (fun p hp => by have := h1.2 p hp; omega) hk
end Go.Proofs.YteamljekjncbfaaDoor.P
end
section
namespace Go.Proofs.YteamljekjncbfaaDoor.P
open Go.RowKit Go.Proofs.YteamljekjncbfaaDoorW.PrintWords Go.Proofs.YteamljekjncbfaaDoorW.PrintLast Go.Proofs.YteamljekjncbfaaDoorW.PrintMore
attribute [local go_sem] max2_int min2_int max_two min_two max_three min_three max_four min_four
set_option linter.unusedVariables false
set_option linter.unusedSimpArgs false
def bytes_Equal.f (l0 : List Int) (l1 : List Int) : Option (Bool) := some ((strOfNums l0).toList == (strOfNums l1).toList)
set_option maxHeartbeats 8000000 in
set_option maxRecDepth 100000 in
theorem bytes_Equal.calls (A0 : Option Addr) (c0 : Nat) (l0 : List Int) (A1 : Option Addr) (c1 : Nat) (l1 : List Int) (r : Bool) (w : World) (hr0 : Kd.C (Kd.int .u8) w A0 l0.length l0) (hc0 : l0.length ≤ c0) (hr1 : Kd.C (Kd.int .u8) w A1 l1.length l1) (hc1 : l1.length ≤ c1) (h : bytes_Equal.f l0 l1 = some r) :
    Calls Tryd.prog 24 #[.slice A0 l0.length c0, .slice A1 l1.length c1] w fun e w' => e = .returned (.bool r) ∧ Drawn0 w w' := by
  have HR0 := Aside0.mk hr0
  have HC0 := Aside0.mk hc0
  clear hr0 hc0
  have HR1 := Aside0.mk hr1
  have HC1 := Aside0.mk hc1
  clear hr1 hc1
  have H : (some ((strOfNums l0).toList == (strOfNums l1).toList)) = some r := h
  clear h
  obtain rfl := Option.some.inj H
  have hcv3 := Kd.C_string (P := Tryd.prog) (A := A0) (c := c0) Tryd.underlying33 Tryd.underlying5 Tryd.underlying9 HR0.out
  have hcv4 := Kd.C_string (P := Tryd.prog) (A := A1) (c := c1) Tryd.underlying33 Tryd.underlying5 Tryd.underlying9 HR1.out
  go_enter Tryd.func24, Tryd.ntmps24
  go_wp2
  go_ret
  exact ⟨by first | rfl | (simp; done) | (simp [*]; done), by repeat (first | exact Drawn0.refl _ | apply Drawn0.step)⟩
end Go.Proofs.YteamljekjncbfaaDoor.P
end
section
set_option linter.unusedVariables false
set_option linter.unusedSimpArgs false
namespace Go.Proofs.YteamljekjncbfaaDoor.P
open Go.RowKit Go.Proofs.YteamljekjncbfaaDoor.Pure Go.Proofs.YteamljekjncbfaaDoorW.PrintWords Go.Proofs.YteamljekjncbfaaDoorW.PrintLast Go.Proofs.YteamljekjncbfaaDoorW.PrintMore
theorem outB_ok (ws : List Int) (k : Nat) : BytesOk (outB ws k) := by
  induction k with
  | zero =>
    intro x hx
    have := List.eq_of_mem_replicate hx
    omega
  | succ k ih =>
    intro x hx
    rcases List.mem_or_eq_of_mem_set hx with h | rfl
    · exact ih x h
    · unfold wordByte
      omega
theorem hashB_ok (size tag : Int) (parts : List (List Int)) : BytesOk (hashB size tag parts) := by
  unfold hashB
  split
  · intro x hx; cases hx
  · exact fun x hx => outB_ok _ _ x (List.mem_of_mem_take hx)
theorem hashR_ok (size : Int) (r : Rec) : BytesOk (hashR size r) := by
  unfold hashR
  split
  · exact hashB_ok _ _ _
  · intro x hx; cases hx
def recAgg (x : Rec) (p : Rows6) : Value := .agg #[.int .i64 x.f0, .int .i64 x.f1, .slice p.A2 x.f2.length p.c2, .int .i64 x.f3, .slice p.A4 x.f4.length p.c4, .slice p.A5 x.f5.length p.c5]
def RecR (base : Nat) (w : World) (p : Rows6) (x : Rec) : Prop :=
  Kd.R (Kd.int .u8) 5 w base (fun _ => True) (.slice p.A2 x.f2.length p.c2) x.f2 ∧ Kd.R (Kd.int .u8) 5 w base (fun _ => True) (.slice p.A4 x.f4.length p.c4) x.f4 ∧ Kd.R (Kd.slice 5 (Kd.int .u8)) 33 w base (fun _ => True) (.slice p.A5 x.f5.length p.c5) x.f5
theorem RecR.zero (base : Nat) (w : World) : RecR base w z6 z40 := ⟨Kd.R_nil _ _ _ _ _, Kd.R_nil _ _ _ _ _, Kd.R_nil _ _ _ _ _⟩
theorem RecR.toC {base : Nat} {w : World} {p : Rows6} {x : Rec} (h : RecR base w p x) : RecC w p x := by
  have k2 := Kd.R_reads' h.1
  have k4 := Kd.R_reads' h.2.1
  have k5 := Kd.R_reads' h.2.2
  exact ⟨k2.2.1, k2.2.2, k4.2.1, k4.2.2, k5.2.1, k5.2.2⟩
theorem RecR.lower {b b1 : Nat} {w : World} {p : Rows6} {x : Rec} (h : RecR b w p x) (hb : b1 ≤ b) : RecR b1 w p x := ⟨Kd.R_lower h.1 hb, Kd.R_lower h.2.1 hb, Kd.R_lower h.2.2 hb⟩
theorem RecR.below {base : Nat} {w w1 : World} {p : Rows6} {x : Rec} (h : RecR base w p x) (hb : Below w.heap.size w w1) : RecR base w1 p x := ⟨Kd.R_below h.1 hb, Kd.R_below h.2.1 hb, Kd.R_below h.2.2 hb⟩
def FollowPostS (o : Option Rec) (w : World) (e : Ending) (w' : World) : Prop :=
  ∃ p : Rows6, e = .returned (.tuple #[recAgg (handed o).1 p, .bool (handed o).2]) ∧ RecR w.heap.size w' p (handed o).1 ∧ Below w.heap.size w w'
theorem put6_same {w : World} {g k : Nat} (hne : k ≠ g) (v0 v1 v2 v3 v4 v5 : Value) : (put6 w g v0 v1 v2 v3 v4 v5).heap[k]? = w.heap[k]? := by
  unfold put6
  rw [Below.heap_setCell _ _ _ _ hne, Below.heap_setCell _ _ _ _ hne, Below.heap_setCell _ _ _ _ hne, Below.heap_setCell _ _ _ _ hne, Below.heap_setCell _ _ _ _ hne, Below.heap_setCell _ _ _ _ hne]
theorem put6_R {α : Type} {d : Kd α} {e base : Nat} {ok : Nat → Prop} {w : World} {v : Value} {xs : List α} {g : Nat} {x : Rec} {p : Rows6} (h : d.R e w base ok v xs) (hb : RecB w g x p) (ht : ∀ q, q ∈ e :: d.E → q ≠ 40) (v0 v1 v2 v3 v4 v5 : Value) :
    d.R e (put6 w g v0 v1 v2 v3 v4 v5) base (fun k => ok k ∧ k ≠ g) v xs :=
  Kd.R_step (Kd.R_types h hb ht) (fun k hk _ => put6_same hk.2 _ _ _ _ _ _)
theorem RecR.put6 {base : Nat} {w : World} {p q : Rows6} {x y : Rec} {g : Nat} (h : RecR base w p x) (hb : RecB w g y q) (v0 v1 v2 v3 v4 v5 : Value) : RecR base (put6 w g v0 v1 v2 v3 v4 v5) p x :=
  ⟨Kd.R_mono (put6_R h.1 hb (by decide) v0 v1 v2 v3 v4 v5) (fun _ _ => trivial), Kd.R_mono (put6_R h.2.1 hb (by decide) v0 v1 v2 v3 v4 v5) (fun _ _ => trivial), Kd.R_mono (put6_R h.2.2 hb (by decide) v0 v1 v2 v3 v4 v5) (fun _ _ => trivial)⟩
theorem follow_no {w W : World} {g : Nat} (h8 : RecB W g z40 z6) (hb : Below w.heap.size w W) (hg : w.heap.size ≤ g) {o : Option Rec} (ho : o = none) :
    RecB (put6 W g (.int .i64 0) (.int .i64 0) (.slice none 0 0) (.int .i64 0) (.slice none 0 0) (.slice none 0 0)) g z40 z6 ∧ FollowPostS o w (.returned (.tuple #[recAgg z40 z6, .bool false])) (put6 W g (.int .i64 0) (.int .i64 0) (.slice none 0 0) (.int .i64 0) (.slice none 0 0) (.slice none 0 0)) := by
  subst ho
  exact ⟨put6_rec h8 z40 z6, z6, rfl, RecR.zero _ _, put6_below hb hg _ _ _ _ _ _⟩
set_option maxRecDepth 100000 in
theorem results_follow (W : World) (g : Nat) (x : Rec) (p : Rows6) (b : Bool) (h : RecB W g x p) (tm : Array Value) (h8 : tm[8]?.getD undef = .pointer (some ⟨g, 0, none⟩)) (h9 : tm[9]?.getD undef = .bool b) : (results Tryd.f30 tm).run Tryd.prog W = .ok (.tuple #[recAgg x p, .bool b]) W := by
  obtain ⟨c0, c1, c2, c3, c4, c5⟩ := h.cells
  simp [results, Tryd.results30, go_sem, h8, h9, c0, c1, c2, c3, c4, c5, recAgg]
set_option maxHeartbeats 8000000 in
set_option maxRecDepth 100000 in
theorem follow_callsS (size : Int) (x0 : Rec) (p0 : Rows6) (Aw : Option Addr) (cw : Nat) (way : List Rec) (t : Int) (w : World) (h0 : RecC w p0 x0) (hw : Kd.C k40 w Aw way.length way)
    (hs : -9223372036854775808 ≤ size ∧ size < 9223372036854775808) (ho : RecOk x0) (hway : ∀ r ∈ way, RecOk r) (hGT : GlobT w) (hGS : GlobS w) :
    Calls Tryd.prog 30 #[.int .i64 size, .agg #[.int .i64 x0.f0, .int .i64 x0.f1, .slice p0.A2 x0.f2.length p0.c2, .int .i64 x0.f3, .slice p0.A4 x0.f4.length p0.c4, .slice p0.A5 x0.f5.length p0.c5], .slice Aw way.length cw, .int .i64 t] w (FollowPostS (followR size x0 way t) w) := by
  have H0 := Aside0.mk h0
  have HW := Aside0.mk hw
  have HS := Aside0.mk hs
  have HO := Aside0.mk ho
  have HWAY := Aside0.mk hway
  have HGT := Aside0.mk hGT
  have HGS := Aside0.mk hGS
  have hwm := hw.2.1
  have HWM := Aside0.mk hwm
  clear h0 hw hs ho hway hGT hGS hwm
  go_enter Tryd.func30, Tryd.ntmps30
  go_wp2_with fail
  obtain ⟨W1, hW1⟩ : ∃ W1, W1 = (w.alloc (.cells (recL x0 p0).toArray 40)).alloc (.cells (recL z40 z6).toArray 40) := ⟨_, rfl⟩
  have hB1 : Below w.heap.size w W1 := by rw [hW1]; exact below_alloc (below_alloc (Below.refl _ _) _) _
  have h5 : RecB W1 w.heap.size x0 p0 := by
    rw [hW1]
    exact (recB_new w x0 p0).below (below_alloc (Below.refl _ _) _)
  have h8 : RecB W1 (w.heap.size + 1) z40 z6 := by
    rw [hW1]
    have := recB_new (w.alloc (.cells (recL x0 p0).toArray 40)) z40 z6
    simpa using this
  change Calls _ _ _ ((w.alloc (.cells (recL x0 p0).toArray 40)).alloc (.cells (recL z40 z6).toArray 40)) _
  rw [← hW1]
  have HB1 := Aside0.mk hB1
  have H5 := Aside0.mk h5
  have H8 := Aside0.mk h8
  have hC1 := H0.out.below hB1
  clear hW1 hB1 h5 h8
  refine (record_Can.calls 200 size x0.f0 x0.f1 (fun k => k < W1.heap.size) p0.A2 p0.c2 x0.f2 x0.f3 (fun k => k < W1.heap.size) p0.A4 p0.c4 x0.f4 p0.A5 p0.c5 x0.f5 (decide (CanR size x0)) W1 (Kd.V_mk hC1.l2 (Kd.C_F (Kd.heap_int .u8) hC1.g2)) (Kd.V_mk hC1.l4 (Kd.C_F (Kd.heap_int .u8) hC1.g4)) hC1.g5 hC1.l5 (GlobT.of HGT.out HB1.out) (can_f size x0 HS.out HO.out.e1 200 (by decide))).mono ?_
  rintro e w2 ⟨rfl, hB2⟩
  have HB2 := Aside0.mk (HB1.out.trans (hB2.mono HB1.out.size))
  replace H5 := Aside0.mk (H5.out.below hB2)
  replace H8 := Aside0.mk (H8.out.below hB2)
  have HC2 := Aside0.mk (hC1.below hB2)
  clear hB2 hC1 HB1
  obtain ⟨e0, e1, e2, e3, e4, e5⟩ := H5.out.cells
  by_cases hcan : CanR size x0
  case neg =>
    have HNO := Aside0.mk (show followR size x0 way t = none from if_neg (fun h => hcan h.1))
    have hd := decide_eq_false hcan
    clear hcan
    obtain ⟨f0, f1, f2, f3, f4, f5⟩ := H8.out.frozen
    obtain ⟨d0, d1, d2, d3, d4, d5⟩ := H8.out.cells
    go_wp2_with fail
    have hno := follow_no (o := followR size x0 way t) H8.out HB2.out (by omega) HNO.out
    exact bodyPost_ret (results_follow _ (w.heap.size + 1) z40 z6 false hno.1 _ rfl rfl) rfl hno.2
  have hd := decide_eq_true hcan
  by_cases ht : t < 0
  · have HNO := Aside0.mk (show followR size x0 way t = none from if_neg (fun h => by omega))
    have hdt := decide_eq_true ht
    clear hcan ht
    obtain ⟨f0, f1, f2, f3, f4, f5⟩ := H8.out.frozen
    obtain ⟨d0, d1, d2, d3, d4, d5⟩ := H8.out.cells
    go_wp2_with fail
    have hno := follow_no (o := followR size x0 way t) H8.out HB2.out (by omega) HNO.out
    exact bodyPost_ret (results_follow _ (w.heap.size + 1) z40 z6 false hno.1 _ rfl rfl) rfl hno.2
  have hdt := decide_eq_false ht
  by_cases hle : x0.f0 < t
  · have HNO := Aside0.mk (show followR size x0 way t = none from if_neg (fun h => by omega))
    have hdl := decide_eq_true hle
    clear hcan ht hle
    obtain ⟨f0, f1, f2, f3, f4, f5⟩ := H8.out.frozen
    obtain ⟨d0, d1, d2, d3, d4, d5⟩ := H8.out.cells
    go_wp2_with fail
    have hno := follow_no (o := followR size x0 way t) H8.out HB2.out (by omega) HNO.out
    exact bodyPost_ret (results_follow _ (w.heap.size + 1) z40 z6 false hno.1 _ rfl rfl) rfl hno.2
  have hdl := decide_eq_false hle
  have HFR := Aside0.mk (show followR size x0 way t = followS size t x0 way from if_pos ⟨hcan, by omega, by omega⟩)
  have HCAN := Aside0.mk hcan
  have HT := Aside0.mk (show 0 ≤ t by omega)
  clear hcan ht hle
  go_wp2_with fail
  obtain ⟨W3, hW3⟩ : ∃ W3, W3 = w2.alloc (.cells (recL x0 p0).toArray 40) := ⟨_, rfl⟩
  change Code.wp _ _ _ _ (w2.alloc (.cells (recL x0 p0).toArray 40))
  rw [← hW3]
  have hB3 : Below w2.heap.size w2 W3 := by rw [hW3]; exact below_alloc (Below.refl _ _) _
  have h10 : RecB W3 w2.heap.size x0 p0 := by rw [hW3]; exact recB_new _ _ _
  obtain ⟨g, hg⟩ : ∃ g, g = w2.heap.size := ⟨_, rfl⟩
  rw [← hg] at h10
  rw [← hg]
  have HB3 := Aside0.mk (HB2.out.trans (hB3.mono HB2.out.size))
  have H83 := Aside0.mk (H8.out.below hB3)
  have HC3 := Aside0.mk (HC2.out.below hB3)
  have H10 := Aside0.mk h10
  have HG := Aside0.mk (show w.heap.size ≤ g by rw [hg]; exact HB2.out.size)
  have HG8 := Aside0.mk (show g ≠ w.heap.size + 1 by have := H8.out.lt; omega)
  obtain ⟨q, hq⟩ : ∃ q, q = w.heap.size + 1 := ⟨_, rfl⟩
  rw [← hq] at H83 HG8
  rw [← hq]
  have HQ := Aside0.mk (show w.heap.size ≤ q by omega)
  clear hW3 hB3 h10 hg hq HB2 H8 HC2 H5 e0 e1 e2 e3 e4 e5 hd hdt hdl
  go_loopw [33] (fun v33 wr => ∃ (k : Nat) (x : Rec) (p : Rows6), k ≤ way.length ∧ v33 = .int .i64 (k : Int) ∧ Aside0 (RecB wr g x p) ∧ Aside0 (RecC wr p x) ∧ Aside0 (RecB wr q z40 z6) ∧ Aside0 (CanR size x ∧ RecOk x) ∧ Aside0 (followR size x0 way t = followS size t x (way.drop k)) ∧ Aside0 (Below w.heap.size w wr)) (fun v33 _ => way.length - (intOf v33).toNat)
  case atStart => exact ⟨0, x0, p0, by omega, rfl, H10, HC3, H83, ⟨HCAN.out, HO.out⟩, ⟨by rw [List.drop_zero]; exact HFR.out⟩, HB3⟩
  case round =>
    clear H10 HC3 H83 HCAN HFR HB3 H0 HO
    obtain ⟨k, x, p, hk, rfl, H10, HC, H8, HX, HF, HB⟩ := hrel
    have hwm := HWM.out
    by_cases hlt : k < way.length
    · obtain ⟨ad, pr, hAw, hRC, r0, r1, r2, r3, r4, r5⟩ := rec_at HW.out k hlt
      subst hAw
      obtain ⟨r, hr⟩ : ∃ r, r = rd_T40 way (k : Int) := ⟨_, rfl⟩
      rw [← hr] at hRC r0 r1 r2 r3 r4 r5
      have hrm : r = way[k] := by
        rw [hr]
        unfold rd_T40
        rw [Int.toNat_natCast, List.getD_eq_getElem?_getD, List.getElem?_eq_getElem hlt]
        rfl
      have HRO := Aside0.mk (show RecOk r by rw [hrm]; exact HWAY.out _ (List.getElem_mem hlt))
      have HDR := Aside0.mk (show way.drop k = r :: way.drop (k + 1) by rw [hrm]; exact List.drop_eq_getElem_cons hlt)
      have HRC0 := Aside0.mk hRC
      have HRC := Aside0.mk (hRC.below HB.out)
      replace r0 := (HB.out.cell (World.block_lt_of_cell? w _ r0)).trans r0
      replace r1 := (HB.out.cell (World.block_lt_of_cell? w _ r1)).trans r1
      replace r2 := (HB.out.cell (World.block_lt_of_cell? w _ r2)).trans r2
      replace r3 := (HB.out.cell (World.block_lt_of_cell? w _ r3)).trans r3
      replace r4 := (HB.out.cell (World.block_lt_of_cell? w _ r4)).trans r4
      replace r5 := (HB.out.cell (World.block_lt_of_cell? w _ r5)).trans r5
      have hd : decide ((k : Int) < (way.length : Int)) = true := by simp; omega
      have q1 : (k : Int) < (way.length : Int) := by omega
      have HLT := Aside0.mk hlt
      obtain ⟨e0, e1, e2, e3, e4, e5⟩ := H10.out.cells
      have hgl := H10.out.lt
      clear hRC hr hrm hlt hk
      go_wp2_with fail
      obtain ⟨W4, hW4⟩ : ∃ W4, W4 = wr.alloc (.cells (recL r pr).toArray 40) := ⟨_, rfl⟩
      change Calls _ _ _ (wr.alloc (.cells (recL r pr).toArray 40)) _
      rw [← hW4]
      have hB4 : Below wr.heap.size wr W4 := by rw [hW4]; exact below_alloc (Below.refl _ _) _
      have h12 : RecB W4 wr.heap.size r pr := by rw [hW4]; exact recB_new _ _ _
      obtain ⟨b, hb⟩ : ∃ b, b = wr.heap.size := ⟨_, rfl⟩
      rw [← hb] at h12
      rw [← hb]
      have HBG := Aside0.mk (show b ≠ g by omega)
      have HB04 := HB.out.trans (hB4.mono HB.out.size)
      obtain ⟨j, hj⟩ : ∃ j : Int, j = if x.f0 ≤ t then -1 else (hopE x.f0 t : Int) := ⟨_, rfl⟩
      have hstep : skip_step.f 1 x.f0 t = some j := by
        rw [hj]
        by_cases h : x.f0 ≤ t
        · rw [if_pos h]
          exact step_no _ _ (.inr h) 1 (by omega)
        · rw [if_neg h]
          have hx0 := HX.out.1.2.1
          have ht0 := HT.out
          obtain ⟨a, ha⟩ := Int.eq_ofNat_of_zero_le hx0.1
          obtain ⟨c, hc⟩ := Int.eq_ofNat_of_zero_le ht0
          unfold hopE
          rw [ha, hc]
          exact step_yes a c (by omega) (by omega) 1 (by omega)
      refine (skip_step.calls 1 x.f0 t j W4 (GlobT.of HGT.out HB04) hstep).mono ?_
      rintro e w5 ⟨rfl, hB5⟩
      have HBW := Aside0.mk (HB04.trans (hB5.mono HB04.size))
      have hB45 := hB4.trans (hB5.mono hB4.size)
      have H8W := Aside0.mk (H8.out.below hB45)
      have H10W := Aside0.mk (H10.out.below hB45)
      have H12W := Aside0.mk (h12.below hB5)
      have HCW := Aside0.mk (HC.out.below hB45)
      have HRW := Aside0.mk (HRC.out.below hB45)
      clear hW4 hB4 h12 hb HB04 hB5 hB45 H8 H10 HC HRC HB hgl e0 e1 e2 e3 e4 e5 r0 r1 r2 r3 r4 r5 hstep
      obtain ⟨e0, e1, e2, e3, e4, e5⟩ := H10W.out.cells
      obtain ⟨r0, r1, r2, r3, r4, r5⟩ := H12W.out.cells
      by_cases hle : x.f0 ≤ t
      · obtain rfl : j = -1 := by rw [hj]; exact if_pos hle
        have HNO := Aside0.mk (show followR size x0 way t = none by rw [HF.out, HDR.out]; exact if_pos hle)
        clear hj hle
        go_wp2_with fail
        go_quiet (fail)
        replace H8W := Aside0.mk (H8W.out.below (pw_below_drewN (Below.refl _ _) nq))
        replace HBW := Aside0.mk (pw_below_drewN HBW.out nq)
        obtain ⟨f0, f1, f2, f3, f4, f5⟩ := H8W.out.frozen
        obtain ⟨d0, d1, d2, d3, d4, d5⟩ := H8W.out.cells
        go_wp2_with fail
        have hno := follow_no (o := followR size x0 way t) H8W.out HBW.out HQ.out HNO.out
        exact bodyPost_ret (results_follow _ q z40 z6 false hno.1 _ rfl rfl) rfl hno.2
      · obtain ⟨h, hh⟩ : ∃ h : Nat, h = hopE x.f0 t := ⟨_, rfl⟩
        have hjh : j = (h : Int) := by rw [hj, if_neg hle, hh]
        have hx0 := HX.out.1.2.1
        have hl5 := HX.out.1.2.2.2.2.2.1
        have ht0 := HT.out
        have hhl := hop_le x.f0.toNat t.toNat (by omega) (by omega)
        have hv : h ≤ vz x.f0.toNat := by rw [hh]; exact Nat.min_le_left _ _
        have hh2 : p2 h ≤ x.f0.toNat - t.toNat ∧ h ≤ 62 := by rw [hh]; exact hhl
        have h5l : h < x.f5.length := by rw [hl5]; unfold linksN; rw [if_neg (by omega)]; omega
        obtain ⟨P, hP⟩ : ∃ P : Int, P = (p2 h : Int) := ⟨_, rfl⟩
        have hsh : IntKind.i64.wrap (2 ^ j.toNat) = P := by
          have := shl_one h hh2.2
          unfold shl at this
          rw [Int.toNat_natCast, Nat.min_eq_left (by simp only [IntKind.bits]; omega), Int.one_mul] at this
          rw [hjh, Int.toNat_natCast, hP]
          exact this
        have hsub : IntKind.i64.wrap (x.f0 - P) = x.f0 - P := IntWalk.i64_in _ ⟨by omega, by omega⟩
        have hj0 : 0 ≤ j := by omega
        have hj62 : j ≤ 62 := by omega
        have hjn : decide (j < 0) = false := decide_eq_false (by omega)
        have hjl : j < (x.f5.length : Int) := by omega
        have HJ := Aside0.mk hjh
        have HH := Aside0.mk hh
        have HP := Aside0.mk hP
        have HLE := Aside0.mk hle
        clear hj hle hjh hh hx0 hl5 ht0 hhl hv hh2 hP
        by_cases heq : r.f0 = x.f0 - P
        case neg =>
          have HNO := Aside0.mk (show followR size x0 way t = none by rw [HF.out, HDR.out]; unfold followS; rw [if_neg HLE.out, if_neg (fun hc => heq (by rw [HP.out, HH.out]; exact hc.1))])
          have hne : (r.f0 != x.f0 - P) = true := by simpa using heq
          clear heq
          go_wp2_with fail
          go_quiet (fail)
          replace H8W := Aside0.mk (H8W.out.below (pw_below_drewN (Below.refl _ _) nq))
          replace HBW := Aside0.mk (pw_below_drewN HBW.out nq)
          obtain ⟨f0, f1, f2, f3, f4, f5⟩ := H8W.out.frozen
          obtain ⟨d0, d1, d2, d3, d4, d5⟩ := H8W.out.cells
          go_wp2_with fail
          have hno := follow_no (o := followR size x0 way t) H8W.out HBW.out HQ.out HNO.out
          exact bodyPost_ret (results_follow _ q z40 z6 false hno.1 _ rfl rfl) rfl hno.2
        have HEQ := Aside0.mk heq
        have hne : (r.f0 != x.f0 - P) = false := by simpa using heq
        clear heq
        go_wp2_with fail
        go_quiet (fail)
        have hbq := pw_below_drewN (Below.refl w5.heap.size w5) nq
        replace H8W := Aside0.mk (H8W.out.below hbq)
        replace H10W := Aside0.mk (H10W.out.below hbq)
        replace H12W := Aside0.mk (H12W.out.below hbq)
        replace HCW := Aside0.mk (HCW.out.below hbq)
        replace HRW := Aside0.mk (HRW.out.below hbq)
        replace HBW := Aside0.mk (pw_below_drewN HBW.out nq)
        clear hbq e0 e1 e2 e3 e4 e5 r0 r1 r2 r3 r4 r5 hsh hsub hne
        obtain ⟨r0, r1, r2, r3, r4, r5⟩ := H12W.out.cells
        go_wp2_with fail
        refine (record_Hash.calls 200 size r.f0 r.f1 pr.A2 pr.c2 r.f2 r.f3 pr.A4 pr.c4 r.f4 pr.A5 pr.c5 r.f5 (hashR size r) (w5.drewN nq) HRW.out.g2 HRW.out.l2 HRW.out.g4 HRW.out.l4 HRW.out.g5 HRW.out.l5 (GlobT.of HGT.out HBW.out) (GlobS.of HGS.out HBW.out) (hashR_f size r HS.out HRO.out.e1 200 (by decide))).mono ?_
        rintro e w7 ⟨v, rfl, hV, hB7⟩
        obtain ⟨Ah, ch, rfl⟩ := Kd.V_slice hV
        have hVC := Kd.V_reads' hV
        replace H8W := Aside0.mk (H8W.out.below hB7)
        replace H10W := Aside0.mk (H10W.out.below hB7)
        replace H12W := Aside0.mk (H12W.out.below hB7)
        replace HCW := Aside0.mk (HCW.out.below hB7)
        replace HRW := Aside0.mk (HRW.out.below hB7)
        replace HBW := Aside0.mk (HBW.out.trans (hB7.mono HBW.out.size))
        clear hV hB7 r0 r1 r2 r3 r4 r5
        obtain ⟨e0, e1, e2, e3, e4, e5⟩ := H10W.out.cells
        obtain ⟨r0, r1, r2, r3, r4, r5⟩ := H12W.out.cells
        obtain ⟨adl, Al, cl, hA5, hlx, hlc, hlC⟩ := at_L1 HCW.out.g5 j hj0 hjl
        obtain ⟨L, hL⟩ : ∃ L, L = rd_L1 x.f5 j := ⟨_, rfl⟩
        rw [← hL] at hlx hlc hlC
        obtain ⟨hs, hhs⟩ : ∃ hs, hs = hashR size r := ⟨_, rfl⟩
        rw [← hhs] at hVC
        rw [← hhs]
        have hLm : L ∈ x.f5 := by
          rw [hL, HJ.out, rd_L1_at _ _ (by have := HJ.out; omega)]
          exact List.getElem_mem _
        have hLl : (L.length : Int) = size := HX.out.1.2.2.2.2.2.2 L hLm
        have hsz := HX.out.1.1
        have HEQC := Aside0.mk (show Calls Tryd.prog 24 #[.slice Ah hs.length ch, .slice Al L.length cl] w7 fun e w' => e = .returned (.bool (decide (hs = L))) ∧ Drawn0 w7 w' from by
          rw [← strNum_eq (by rw [hhs]; exact hashR_ok size r) (HX.out.2.t5 L hLm)]
          exact bytes_Equal.calls Ah ch hs Al cl L _ w7 hVC.2.2 hVC.2.1 hlC hlc rfl)
        have HLEN := Aside0.mk hLl
        have HSZ := Aside0.mk hsz
        have HHS := Aside0.mk hhs
        have HLL := Aside0.mk (show L = rd_L1 x.f5 (hopE x.f0 t : Int) by rw [hL, HJ.out, HH.out])
        have hVC3 := hVC.2.2
        have hVm := hVC3.2.1
        clear hlc hlC hLm hLl hsz hL hhs hVC
        by_cases hcr : CanR size r
        · have hs0 : 0 < hs.length := by
            have := hashR_some size r hcr
            rw [← HHS.out] at this
            cases hs with
            | nil => exact absurd rfl this
            | cons y ys => simp
          obtain ⟨ah, rfl⟩ : ∃ ah, Ah = some ah := by
            obtain ⟨ah, e, _⟩ := (Kd.reads_of_C (d := (0 : Int)) hVC3).2.2 hs0
            exact ⟨ah, e⟩
          have hnil : ∀ W : World, (binOp .eql 33 (.slice (some ah) hs.length ch) (.slice none 0 0)).run Tryd.prog W = .ok (.bool false) W := fun _ => by kernel_rfl
          have HCR := Aside0.mk hcr
          clear hcr hs0 hVC3 hVm
          by_cases heq : hs = L
          case neg =>
            have hdq : decide (hs = L) = false := decide_eq_false heq
            have HNO := Aside0.mk (show followR size x0 way t = none by rw [HF.out, HDR.out]; unfold followS; rw [if_neg (by have := HLE.out; omega), if_neg (fun hc => heq (by rw [HHS.out, HLL.out]; exact hc.2.2))])
            clear heq
            obtain ⟨f0, f1, f2, f3, f4, f5⟩ := H8W.out.frozen
            obtain ⟨d0, d1, d2, d3, d4, d5⟩ := H8W.out.cells
            go_wp2_with (first | (go_at_call 24; refine HEQC.out.mono ?_; rintro e w8 ⟨rfl, ⟨mm, rfl⟩⟩; replace H8W := Aside0.mk (H8W.out.below (pw_below_drewN (Below.refl _ _) mm)); replace HBW := Aside0.mk (pw_below_drewN HBW.out mm)))
            have hno := follow_no (o := followR size x0 way t) H8W.out HBW.out HQ.out HNO.out
            exact bodyPost_ret (results_follow _ q z40 z6 false hno.1 _ rfl rfl) rfl hno.2
          have hdq : decide (hs = L) = true := decide_eq_true heq
          have HNX := Aside0.mk (show followR size x0 way t = followS size t r (way.drop (k + 1)) by rw [HF.out, HDR.out]; simp only [followS]; rw [if_neg (by have := HLE.out; omega), if_pos ⟨by rw [HEQ.out, HP.out, HH.out], HCR.out, by rw [← HHS.out, ← HLL.out]; exact heq⟩])
          clear heq
          obtain ⟨f0, f1, f2, f3, f4, f5⟩ := H10W.out.frozen
          go_wp2_with (first | (go_at_call 24; refine HEQC.out.mono ?_; rintro e w8 ⟨rfl, ⟨mm, rfl⟩⟩; replace H8W := Aside0.mk (H8W.out.below (pw_below_drewN (Below.refl _ _) mm)); replace H10W := Aside0.mk (H10W.out.below (pw_below_drewN (Below.refl _ _) mm)); replace HRW := Aside0.mk (HRW.out.below (pw_below_drewN (Below.refl _ _) mm)); replace HBW := Aside0.mk (pw_below_drewN HBW.out mm)))
          have hlt := HLT.out
          have hfar : q ≠ g := Ne.symm HG8.out
          have hb9 := put6_below HBW.out HG.out (.int .i64 r.f0) (.int .i64 r.f1) (.slice pr.A2 r.f2.length pr.c2) (.int .i64 r.f3) (.slice pr.A4 r.f4.length pr.c4) (.slice pr.A5 r.f5.length pr.c5)
          go_roundw
          case measure => simp only [intOf]; omega
          case rel => exact ⟨k + 1, r, pr, by omega, by go_num, ⟨put6_rec H10W.out r pr⟩, ⟨HRC0.out.below hb9⟩, ⟨put6_far hfar H8W.out _ _ _ _ _ _⟩, ⟨HCR.out, HRO.out⟩, ⟨HNX.out⟩, ⟨hb9⟩⟩
        · obtain rfl : hs = [] := by rw [HHS.out]; exact hashR_none size r hcr
          have hne1 : decide (L = []) = false := decide_eq_false (fun he => by
            have := HLEN.out
            have := HSZ.out
            rw [he] at *
            simp at *
            omega)
          have hne0 : decide (([] : List Int) = L) = false := decide_eq_false (fun he => by
            have := HLEN.out
            have := HSZ.out
            rw [← he] at *
            simp at *
            omega)
          have HNO := Aside0.mk (show followR size x0 way t = none by rw [HF.out, HDR.out]; unfold followS; rw [if_neg (by have := HLE.out; omega), if_neg (fun hc => hcr hc.2.1)])
          clear hcr hVC3 hVm
          cases Ah with
          | none =>
            have hnil : ∀ W : World, (binOp .eql 33 (.slice none 0 ch) (.slice none 0 0)).run Tryd.prog W = .ok (.bool true) W := fun _ => by kernel_rfl
            obtain ⟨f0, f1, f2, f3, f4, f5⟩ := H8W.out.frozen
            obtain ⟨d0, d1, d2, d3, d4, d5⟩ := H8W.out.cells
            go_wp2_with (first | (go_at_call 24; refine HEQC.out.mono ?_; rintro e w8 ⟨rfl, ⟨mm, rfl⟩⟩; replace H8W := Aside0.mk (H8W.out.below (pw_below_drewN (Below.refl _ _) mm)); replace HBW := Aside0.mk (pw_below_drewN HBW.out mm)))
            have hno := follow_no (o := followR size x0 way t) H8W.out HBW.out HQ.out HNO.out
            exact bodyPost_ret (results_follow _ q z40 z6 false hno.1 _ rfl rfl) rfl hno.2
          | some ah =>
            have hnil : ∀ W : World, (binOp .eql 33 (.slice (some ah) 0 ch) (.slice none 0 0)).run Tryd.prog W = .ok (.bool false) W := fun _ => by kernel_rfl
            obtain ⟨f0, f1, f2, f3, f4, f5⟩ := H8W.out.frozen
            obtain ⟨d0, d1, d2, d3, d4, d5⟩ := H8W.out.cells
            go_wp2_with (first | (go_at_call 24; refine HEQC.out.mono ?_; rintro e w8 ⟨rfl, ⟨mm, rfl⟩⟩; replace H8W := Aside0.mk (H8W.out.below (pw_below_drewN (Below.refl _ _) mm)); replace HBW := Aside0.mk (pw_below_drewN HBW.out mm)))
            have hno := follow_no (o := followR size x0 way t) H8W.out HBW.out HQ.out HNO.out
            exact bodyPost_ret (results_follow _ q z40 z6 false hno.1 _ rfl rfl) rfl hno.2
    · obtain rfl : k = way.length := by omega
      have hd : decide ((way.length : Int) < (way.length : Int)) = false := by simp
      obtain ⟨e0, e1, e2, e3, e4, e5⟩ := H10.out.cells
      obtain ⟨d0, d1, d2, d3, d4, d5⟩ := H8.out.cells
      obtain ⟨f0, f1, f2, f3, f4, f5⟩ := H8.out.frozen
      have hnil := HF.out
      rw [List.drop_length] at hnil
      by_cases hxt : x.f0 = t
      · have hFR : followR size x0 way t = some x := by rw [hnil]; exact if_pos hxt
        have HFR := Aside0.mk hFR
        have hxd : (x.f0 != t) = false := by simp [hxt]
        clear hnil hFR hxt hk hlt hwm
        go_wp2_with fail
        refine (skip_own.calls 2000 x.f0 x.f1 p.A2 p.c2 x.f2 x.f3 p.A4 p.c4 x.f4 p.A5 p.c5 x.f5 x.f0 x.f1 x.f2 x.f3 x.f4 x.f5 wr HC.out.g2 HC.out.l2 HC.out.g4 HC.out.l4 HC.out.g5 HC.out.l5 (can_own size x HX.out.1 2000 (by decide))).mono ?_
        rintro e w4 ⟨v2, v4, v5, rfl, hR2, hR4, hS5, hB4⟩
        have hR5 := Kd.S_R hS5
        obtain ⟨B2, b2, rfl⟩ := Kd.R_slice hR2
        obtain ⟨B4, b4, rfl⟩ := Kd.R_slice hR4
        obtain ⟨B5, b5, rfl⟩ := Kd.R_slice hR5
        have H84 := Aside0.mk (H8.out.below hB4)
        have HR2 := Aside0.mk hR2
        have HR4 := Aside0.mk hR4
        have HR5 := Aside0.mk hR5
        have HB4 := Aside0.mk (HB.out.trans (hB4.mono HB.out.size))
        clear hR2 hR4 hS5 hR5 hB4 e0 e1 e2 e3 e4 e5 d0 d1 d2 d3 d4 d5 f0 f1 f2 f3 f4 f5
        obtain ⟨d0, d1, d2, d3, d4, d5⟩ := H84.out.cells
        obtain ⟨f0, f1, f2, f3, f4, f5⟩ := H84.out.frozen
        go_wp2_with fail
        have hfin := put6_rec H84.out x ⟨B2, b2, B4, b4, B5, b5⟩
        refine bodyPost_ret (results_follow _ q x ⟨B2, b2, B4, b4, B5, b5⟩ true hfin _ rfl rfl) rfl ?_
        rw [HFR.out]
        exact ⟨⟨B2, b2, B4, b4, B5, b5⟩, rfl, (RecR.lower (b := wr.heap.size) (p := ⟨B2, b2, B4, b4, B5, b5⟩) ⟨Kd.R_mono (put6_R HR2.out H84.out (by decide) _ _ _ _ _ _) (fun _ _ => trivial), Kd.R_mono (put6_R HR4.out H84.out (by decide) _ _ _ _ _ _) (fun _ _ => trivial), Kd.R_mono (put6_R HR5.out H84.out (by decide) _ _ _ _ _ _) (fun _ _ => trivial)⟩ HB.out.size), put6_below HB4.out HQ.out _ _ _ _ _ _⟩
      · have HNO := Aside0.mk (show followR size x0 way t = none by rw [hnil]; exact if_neg hxt)
        have hxd : (x.f0 != t) = true := by simp [hxt]
        clear hnil hxt hk hlt hwm
        go_wp2_with fail
        have hno := follow_no (o := followR size x0 way t) H8.out HB.out HQ.out HNO.out
        exact bodyPost_ret (results_follow _ q z40 z6 false hno.1 _ rfl rfl) rfl hno.2
end Go.Proofs.YteamljekjncbfaaDoor.P
end
section
set_option linter.unusedVariables false
set_option linter.unusedSimpArgs false
namespace Go.Proofs.YteamljekjncbfaaDoor.P
open Go.RowKit Go.Proofs.YteamljekjncbfaaDoor.Pure Go.Proofs.YteamljekjncbfaaDoorW.PrintWords Go.Proofs.YteamljekjncbfaaDoorW.PrintLast Go.Proofs.YteamljekjncbfaaDoorW.PrintMore
end Go.Proofs.YteamljekjncbfaaDoor.P
end
