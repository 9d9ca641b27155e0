/- Lemmas of this claim, part 10. -/
import Derived.Test.YtdeneoknjeegbaaDoorPartArenaSwept8
import Derived.Test.YtdeneoknjeegbaaDoorPartArenaSwept4
import Derived.Test.YtdeneoknjeegbaaDoorPartArenaSwept6
import Derived.Test.YtdeneoknjeegbaaDoorPartArenaSwept5
import Derived.Test.YtdeneoknjeegbaaDoorPartArenaSwept9
import Derived.Lib.SlBytesConst
import Derived.Test.YtdeneoknjeegbaaDoorPartArenaSwept2
section
set_option linter.unusedVariables false
set_option linter.unusedSimpArgs false
namespace Go.Proofs.YtdeneoknjeegbaaDoor.P
open Go.RowKit Go.Proofs.YtdeneoknjeegbaaDoorW.PrintWords Go.Proofs.YtdeneoknjeegbaaDoorW.PrintLast Go.Proofs.YtdeneoknjeegbaaDoorW.PrintMore
theorem wrap64_id (x : Int) (h : -9223372036854775808 ≤ x ∧ x ≤ 9223372036854775807) : wrap64 x = x := by unfold wrap64; omega
def num8 (n : Int) : List Int := [n / 72057594037927936 % 256, n / 281474976710656 % 256, n / 1099511627776 % 256, n / 4294967296 % 256, n / 16777216 % 256, n / 65536 % 256, n / 256 % 256, n % 256]
theorem num8_ok (n : Int) : BytesOk (num8 n) := by
  intro x hx
  simp only [num8, List.mem_cons, List.not_mem_nil, or_false] at hx
  rcases hx with h | h | h | h | h | h | h | h <;> omega
theorem div256 (n : Int) (a b : Int) (ha : 0 ≤ a) (h : a * 256 = b) : n / a / 256 = n / b := by
  rw [Int.ediv_ediv_of_nonneg ha, h]
theorem numBytes_eq (n : Int) : numBytes n = num8 n := by
  have e (i : Nat) (x : Int) (ys : List Int) : numRun (i + 1) x ys = numRun i (x / 256) (ys.set i (x % 256)) := rfl
  unfold numBytes
  rw [e 7, e 6, e 5, e 4, e 3, e 2, e 1, e 0]
  rw [div256 n 256 65536 (by decide) (by decide), div256 n 65536 16777216 (by decide) (by decide), div256 n 16777216 4294967296 (by decide) (by decide), div256 n 4294967296 1099511627776 (by decide) (by decide), div256 n 1099511627776 281474976710656 (by decide) (by decide), div256 n 281474976710656 72057594037927936 (by decide) (by decide)]
  rfl
theorem shr_u64 (n : Int) (i : Int) (d : Int) (h0 : 0 ≤ i) (h1 : i ≤ 56) (hd : (2 : Int) ^ i.toNat = d) : shr .u64 (IntKind.u64.wrap n) i = (n % 18446744073709551616) / d := by
  unfold shr
  rw [IntKind.wrap_u64, Nat.min_eq_left (by simp only [IntKind.bits]; omega), hd]
theorem rnum_step (k : Nat) (n : Int) (acc : List Int) (i d : Int) (h0 : 0 ≤ i) (h1 : i ≤ 56) (hd : (2 : Int) ^ i.toNat = d) (ha : acc.length < 100) :
    annalsref02_Number.l0 (k + 1) n acc i = annalsref02_Number.l0 k n (acc ++ [(n % 18446744073709551616) / d % 256]) (i - 8) := by
  simp only [annalsref02_Number.l0]
  rw [if_pos (by omega), if_pos (by omega), if_pos (by omega), shr_u64 n i d h0 h1 hd, wrap64_id _ (by omega)]
theorem rnum_f (n : Int) (k : Nat) (hk : 9 ≤ k) : annalsref02_Number.f k n = some (num8 n) := by
  obtain ⟨k, rfl⟩ : ∃ m, k = m + 9 := ⟨k - 9, by omega⟩
  unfold annalsref02_Number.f
  rw [rnum_step (k + 8) n _ 56 72057594037927936 (by omega) (by omega) (by decide) (by simp), rnum_step (k + 7) n _ (56 - 8) 281474976710656 (by omega) (by omega) (by decide) (by simp), rnum_step (k + 6) n _ (56 - 8 - 8) 1099511627776 (by omega) (by omega) (by decide) (by simp), rnum_step (k + 5) n _ (56 - 8 - 8 - 8) 4294967296 (by omega) (by omega) (by decide) (by simp), rnum_step (k + 4) n _ (56 - 8 - 8 - 8 - 8) 16777216 (by omega) (by omega) (by decide) (by simp), rnum_step (k + 3) n _ (56 - 8 - 8 - 8 - 8 - 8) 65536 (by omega) (by omega) (by decide) (by simp), rnum_step (k + 2) n _ (56 - 8 - 8 - 8 - 8 - 8 - 8) 256 (by omega) (by omega) (by decide) (by simp), rnum_step (k + 1) n _ (56 - 8 - 8 - 8 - 8 - 8 - 8 - 8) 1 (by omega) (by omega) (by decide) (by simp)]
  have hend : annalsref02_Number.l0 (k + 1) n (([] : List Int) ++ [n % 18446744073709551616 / 72057594037927936 % 256] ++ [n % 18446744073709551616 / 281474976710656 % 256] ++ [n % 18446744073709551616 / 1099511627776 % 256] ++ [n % 18446744073709551616 / 4294967296 % 256] ++ [n % 18446744073709551616 / 16777216 % 256] ++ [n % 18446744073709551616 / 65536 % 256] ++ [n % 18446744073709551616 / 256 % 256] ++ [n % 18446744073709551616 / 1 % 256]) (56 - 8 - 8 - 8 - 8 - 8 - 8 - 8 - 8) = some (([] : List Int) ++ [n % 18446744073709551616 / 72057594037927936 % 256] ++ [n % 18446744073709551616 / 281474976710656 % 256] ++ [n % 18446744073709551616 / 1099511627776 % 256] ++ [n % 18446744073709551616 / 4294967296 % 256] ++ [n % 18446744073709551616 / 16777216 % 256] ++ [n % 18446744073709551616 / 65536 % 256] ++ [n % 18446744073709551616 / 256 % 256] ++ [n % 18446744073709551616 / 1 % 256]) := by
    simp only [annalsref02_Number.l0]
    rw [if_neg (by omega)]
  rw [hend]
  simp only [List.nil_append, List.cons_append, num8]
  have m1 : n % 18446744073709551616 / 72057594037927936 % 256 = n / 72057594037927936 % 256 := by omega
  have m2 : n % 18446744073709551616 / 281474976710656 % 256 = n / 281474976710656 % 256 := by omega
  have m3 : n % 18446744073709551616 / 1099511627776 % 256 = n / 1099511627776 % 256 := by omega
  have m4 : n % 18446744073709551616 / 4294967296 % 256 = n / 4294967296 % 256 := by omega
  have m5 : n % 18446744073709551616 / 16777216 % 256 = n / 16777216 % 256 := by omega
  have m6 : n % 18446744073709551616 / 65536 % 256 = n / 65536 % 256 := by omega
  have m7 : n % 18446744073709551616 / 256 % 256 = n / 256 % 256 := by omega
  have m8 : n % 18446744073709551616 / 1 % 256 = n % 256 := by omega
  rw [m1, m2, m3, m4, m5, m6, m7, m8]
def partB (p : List Int) : List Int := [(p.length : Int) / 256 % 256, (p.length : Int) % 256] ++ p
def textB (tag : Int) (parts : List (List Int)) : List Int := [tag] ++ parts.flatMap partB
def hashB (size tag : Int) (parts : List (List Int)) : List Int := if parts.any isLong = true then [] else (shaSum (textB tag parts)).take (mn (mx size 0) 32).toNat
theorem rd_L1_at (xs : List (List Int)) (i : Nat) (h : i < xs.length) : rd_L1 xs (i : Int) = xs[i] := by
  unfold rd_L1
  rw [Int.toNat_natCast, List.getD_eq_getElem?_getD, List.getElem?_eq_getElem h]
  rfl
theorem partB_length (p : List Int) : (partB p).length = p.length + 2 := by
  unfold partB
  simp
theorem flat_len (parts : List (List Int)) (h : ∀ p ∈ parts, p.length ≤ 65535) : (parts.flatMap partB).length ≤ 65537 * parts.length := by
  induction parts with
  | nil => simp
  | cons p ps ih =>
    have := ih (fun q hq => h q (List.mem_cons_of_mem _ hq))
    have h1 := h p List.mem_cons_self
    rw [List.flatMap_cons, List.length_append, List.length_cons, partB_length]
    omega
theorem not_long {parts : List (List Int)} (h : parts.any isLong = false) : ∀ p ∈ parts, p.length ≤ 65535 := by
  intro p hp
  have := List.any_eq_false.1 h p hp
  unfold isLong at this
  simp at this
  omega
theorem text_l0 (parts : List (List Int)) (hl : ∀ p ∈ parts, p.length ≤ 65535) (hn : parts.length ≤ 100000) : ∀ (d i k : Nat) (acc : List Int), i + d = parts.length → d < k → acc.length ≤ 65537 * i + 1 →
    texts_Text.l0 k acc parts (parts.length : Int) (i : Int) = some (acc ++ (parts.drop i).flatMap partB, 0) := by
  intro d
  induction d with
  | zero =>
    intro i k acc hi hk ha
    obtain ⟨k, rfl⟩ : ∃ m, k = m + 1 := ⟨k - 1, by omega⟩
    simp only [texts_Text.l0]
    rw [if_neg (by omega), List.drop_of_length_le (by omega)]
    simp
  | succ d ih =>
    intro i k acc hi hk ha
    obtain ⟨k, rfl⟩ : ∃ m, k = m + 1 := ⟨k - 1, by omega⟩
    have hlt : i < parts.length := by omega
    have h1 := hl parts[i] (List.getElem_mem hlt)
    simp only [texts_Text.l0]
    rw [if_pos (by omega), if_pos (by omega), if_pos (by omega), rd_L1_at _ _ hlt]
    simp only [Option.bind_some]
    rw [if_pos (by simp; omega), if_pos (by simp; omega), wrap64_id _ (by omega)]
    have := ih (i + 1) k (acc ++ [(parts[i].length : Int) / 256 % 256, (parts[i].length : Int) % 256] ++ parts[i]) (by omega) (by omega) (by simp; omega)
    rw [show ((i : Int) + 1) = ((i + 1 : Nat) : Int) by omega, this, List.drop_eq_getElem_cons hlt, List.flatMap_cons]
    unfold partB
    simp
theorem text_f (tag : Int) (parts : List (List Int)) (ht : 0 ≤ tag ∧ tag ≤ 255) (hn : parts.length ≤ 100000) (k : Nat) (hk : parts.length < k) :
    texts_Text.f k tag parts = some (if parts.any isLong = true then ([], 4) else (textB tag parts, 0)) := by
  unfold texts_Text.f
  rw [if_pos (by omega)]
  unfold slices_ContainsFunc_byte_byte.f
  simp only [Option.bind_some]
  cases h : parts.any isLong
  · rw [if_neg (by simp), if_neg (by simp)]
    have := text_l0 parts (not_long h) hn parts.length 0 k [tag % 256] (by omega) hk (by simp)
    rw [show ((0 : Nat) : Int) = 0 from rfl] at this
    rw [this, show tag % 256 = tag by omega]
    rfl
  · rw [if_pos rfl, if_pos rfl]
theorem textB_length (tag : Int) (parts : List (List Int)) (h : parts.any isLong = false) : (textB tag parts).length ≤ 65537 * parts.length + 1 := by
  have := flat_len parts (not_long h)
  unfold textB
  simp only [List.length_append, List.length_cons, List.length_nil]
  omega
theorem hash_f (size tag : Int) (parts : List (List Int)) (ht : 0 ≤ tag ∧ tag ≤ 255) (hn : parts.length ≤ 100000) (k : Nat) (hk : parts.length < k) :
    texts_Hash.f k size tag parts = some (hashB size tag parts) := by
  unfold texts_Hash.f hashB
  rw [text_f tag parts ht hn k hk]
  simp only [Option.bind_some]
  cases h : parts.any isLong
  · have hl := textB_length tag parts h
    simp only [Bool.false_eq_true, if_false, if_true]
    unfold sha_Cut.f
    rw [if_pos (by show (textB tag parts).length ≤ _; omega)]
    rfl
  · simp only [if_true]
    rw [if_neg (by decide)]
theorem rtext_l0 (parts : List (List Int)) (hn : parts.length ≤ 100000) : ∀ (d i k : Nat) (acc : List Int), i + d = parts.length → d < k → acc.length ≤ 65537 * i + 1 →
    annalsref02_Text.l0 k acc parts (parts.length : Int) (i : Int) = some (if (parts.drop i).any isLong = true then ([], 4) else (acc ++ (parts.drop i).flatMap partB, 0)) := by
  intro d
  induction d with
  | zero =>
    intro i k acc hi hk ha
    obtain ⟨k, rfl⟩ : ∃ m, k = m + 1 := ⟨k - 1, by omega⟩
    simp only [annalsref02_Text.l0]
    rw [if_neg (by omega), List.drop_of_length_le (by omega)]
    simp
  | succ d ih =>
    intro i k acc hi hk ha
    obtain ⟨k, rfl⟩ : ∃ m, k = m + 1 := ⟨k - 1, by omega⟩
    have hlt : i < parts.length := by omega
    simp only [annalsref02_Text.l0]
    rw [if_pos (by omega), if_pos (by omega), if_pos (by omega), rd_L1_at _ _ hlt, List.drop_eq_getElem_cons hlt, List.any_cons]
    by_cases hL : (parts[i].length : Int) > 65535
    · have h1 : isLong parts[i] = true := decide_eq_true hL
      rw [if_pos hL, h1, if_pos (by simp)]
    · have h1 : isLong parts[i] = false := decide_eq_false hL
      rw [if_neg hL, h1, Bool.false_or]
      simp only [Option.bind_some]
      rw [if_pos (by simp; omega), if_pos (by simp; omega), wrap64_id _ (by omega)]
      have := ih (i + 1) k (acc ++ [(parts[i].length : Int) / 256 % 256, (parts[i].length : Int) % 256] ++ parts[i]) (by omega) (by omega) (by simp; omega)
      rw [show ((i : Int) + 1) = ((i + 1 : Nat) : Int) by omega, this, List.flatMap_cons]
      unfold partB
      simp
theorem rtext_f (tag : Int) (parts : List (List Int)) (ht : 0 ≤ tag ∧ tag ≤ 255) (hn : parts.length ≤ 100000) (k : Nat) (hk : parts.length + 1 < k) :
    annalsref02_Text.f k tag parts = some (if parts.any isLong = true then ([], 4) else (textB tag parts, 0)) := by
  obtain ⟨k, rfl⟩ : ∃ m, k = m + 1 := ⟨k - 1, by omega⟩
  unfold annalsref02_Text.f
  rw [if_neg (by omega), decide_eq_false (by omega)]
  simp only [annalsref02_Text.j0]
  rw [if_neg (by simp)]
  have := rtext_l0 parts hn parts.length 0 k [tag % 256] (by omega) (by omega) (by simp)
  rw [show ((0 : Nat) : Int) = 0 from rfl] at this
  rw [this, show tag % 256 = tag by omega, List.drop_zero]
  rfl
def PartsOk (parts : List (List Int)) : Prop := ∀ p ∈ parts, BytesOk p
theorem textB_ok (tag : Int) (parts : List (List Int)) (ht : 0 ≤ tag ∧ tag ≤ 255) (hp : PartsOk parts) : BytesOk (textB tag parts) := by
  intro x hx
  unfold textB at hx
  rcases List.mem_append.1 hx with h | h
  · obtain rfl := List.mem_singleton.1 h
    exact ht
  · obtain ⟨p, hpm, h⟩ := List.mem_flatMap.1 h
    unfold partB at h
    rcases List.mem_append.1 h with h | h
    · simp only [List.mem_cons, List.not_mem_nil, or_false] at h
      rcases h with h | h <;> omega
    · exact hp p hpm x h
theorem cut_eq (a : Int) : mx 0 (mn a 32) = mn (mx a 0) 32 := by
  unfold mx mn
  split <;> split <;> (try split) <;> (try split) <;> omega
theorem refSum_length (bs : List Int) : (refSum bs).length = 32 := by
  unfold refSum
  rw [rout_length]
theorem rhash_f (size tag : Int) (parts : List (List Int)) (ht : 0 ≤ tag ∧ tag ≤ 255) (hp : PartsOk parts) (hn : parts.length ≤ 100000) (k : Nat) (hk : parts.length + 1 < k) :
    annalsref02_Hash.f k size tag parts = some (hashB size tag parts) := by
  unfold annalsref02_Hash.f hashB
  rw [rtext_f tag parts ht hn k hk]
  simp only [Option.bind_some]
  cases h : parts.any isLong
  · have hl := textB_length tag parts h
    simp only [Bool.false_eq_true, if_false, if_true]
    unfold annalsref01_Cut.f annalsref01_Sum.f
    rw [if_pos (by show (textB tag parts).length ≤ _; omega)]
    simp only [Option.bind_some]
    have h0 : 0 ≤ mx 0 (mn size 32) ∧ mx 0 (mn size 32) ≤ 32 := by
      unfold mx mn
      split <;> (try split) <;> (try split) <;> omega
    rw [if_pos h0.1, if_pos (by rw [refSum_length]; exact h0.2), cut_eq, ← sum_eq _ (textB_ok tag parts ht hp)]
    rfl
  · simp only [if_true]
    rw [if_neg (by decide)]
theorem cut_byte : ∀ s : Fin 8, ∀ x : Fin 256, Go.bits .and .u8 (x.val : Int) (255 * 2 ^ s.val % 256) = (x.val : Int) / 2 ^ s.val * 2 ^ s.val % 256 := by decide +kernel
theorem shl_shr_u8 (x s : Int) (h0 : 0 ≤ s) (h1 : s < 8) (hx : 0 ≤ x ∧ x ≤ 255) : shl .u8 (shr .u8 x s) s = Go.bits .and .u8 x (255 * 2 ^ s.toNat % 256) := by
  have := cut_byte ⟨s.toNat, by omega⟩ ⟨x.toNat, by omega⟩
  simp only [Int.toNat_of_nonneg hx.1] at this
  rw [this]
  unfold shl shr
  rw [Nat.min_eq_left (by simp only [IntKind.bits]; omega)]
  rw [IntKind.wrap_u8]
theorem take_set_last (l : List Int) (m : Nat) (h : m < l.length) (y : Int) : (l.take (m + 1)).set m y = l.take m ++ [y] := by
  rw [List.take_succ_eq_append_getElem h, List.set_append_right _ _ (by rw [List.length_take]; omega), List.length_take, Nat.min_eq_left (by omega), Nat.sub_self]
  rfl
theorem rfirst_exit (k : Nat) (l : List Int) (a : Int) (acc : List Int) (i : Int) (h : a ≤ i ∨ 8 * (l.length : Int) ≤ i) (h0 : 0 ≤ i) (h1 : i ≤ 9223372036854775807) (hk : 2 ≤ k) : annalsref03_First.l0 k l a acc i = some acc := by
  obtain ⟨k, rfl⟩ : ∃ m, k = m + 2 := ⟨k - 2, by omega⟩
  simp only [annalsref03_First.l0]
  by_cases hi : i < a
  · rw [if_pos hi]
    have e : wrap64 (Int.tdiv i 8) = i / 8 := by rw [Int.tdiv_eq_ediv_of_nonneg h0]; exact wrap64_id _ (by omega)
    simp only [annalsref03_First.j1]
    rw [e, decide_eq_false (by omega), if_neg (by simp)]
  · rw [if_neg hi]
    simp only [annalsref03_First.j1]
    rw [if_neg (by simp)]
theorem rfirst_l0 (l : List Int) (hb : BytesOk l) (a : Int) (hl : l.length < 140737488355328) (ha : a ≤ 9223372036854775807) : ∀ (d m k : Nat), m + d = l.length → 2 * d + 2 ≤ k → (m = 0 ∨ 8 * (m : Int) ≤ a) →
    annalsref03_First.l0 k l a (l.take m) (8 * (m : Int)) = some (firstB l a) := by
  intro d
  induction d with
  | zero =>
    intro m k hm hk hma
    rw [rfirst_exit k l a _ _ (.inr (by omega)) (by omega) (by omega) (by omega), List.take_of_length_le (by omega)]
    unfold firstB
    by_cases h : 8 * (l.length : Int) ≤ a
    · rw [if_pos h]
    · have h0 : l.length = 0 := by omega
      obtain rfl := List.eq_nil_of_length_eq_zero h0
      rw [if_neg h]
      split
      · rfl
      · rename_i h2
        exfalso
        simp at h
        omega
  | succ d ih =>
    intro m k hm hk hma
    have hlt : m < l.length := by omega
    by_cases hi : 8 * (m : Int) < a
    · obtain ⟨k, rfl⟩ : ∃ j, k = j + 2 := ⟨k - 2, by omega⟩
      have e : wrap64 (Int.tdiv (8 * (m : Int)) 8) = (m : Int) := by rw [Int.tdiv_eq_ediv_of_nonneg (by omega), wrap64_id _ (by omega)]; omega
      have e2 : wrap64 (a - 8 * (m : Int)) = a - 8 * (m : Int) := wrap64_id _ (by omega)
      have e4 : wrap64 (8 * (m : Int) + 8) = 8 * ((m + 1 : Nat) : Int) := by rw [wrap64_id _ (by omega)]; omega
      have hrd : rd l (m : Int) = l[m] := by unfold rd; rw [Int.toNat_natCast, List.getD_eq_getElem?_getD, List.getElem?_eq_getElem hlt]; rfl
      simp only [annalsref03_First.l0, annalsref03_First.j1]
      rw [if_pos hi, e, decide_eq_true (by omega), if_pos rfl, if_pos (by omega), if_pos (by omega), e2, e4, hrd, List.length_take, Nat.min_eq_left (by omega)]
      by_cases h8 : a - 8 * (m : Int) < 8
      · have e3 : wrap64 (8 - (a - 8 * (m : Int))) = 8 - (a - 8 * (m : Int)) := wrap64_id _ (by omega)
        rw [if_pos h8, e3, if_pos (by omega), if_pos (by omega), shl_shr_u8 _ _ (by omega) (by omega) (hb _ (List.getElem_mem hlt)), rfirst_exit k l a _ _ (.inl (by omega)) (by omega) (by omega) (by omega)]
        unfold firstB
        rw [if_neg (by omega), if_neg (by omega)]
        unfold firstBits
        have hbb : bitBytes a.toNat = m + 1 := by unfold bitBytes; omega
        rw [if_neg (by omega), hbb, show m + 1 - 1 = m from rfl, take_set_last l m hlt]
        unfold cutByte
        have e5 : ((a.toNat % 8 : Nat) : Int) = a - 8 * (m : Int) := by omega
        have e6 : (l.take (m + 1)).getD m 0 = l[m] := by
          rw [List.getD_eq_getElem?_getD, List.getElem?_take, if_pos (by omega), List.getElem?_eq_getElem hlt]
          rfl
        rw [e5, e6]
      · rw [if_neg h8, if_pos (by omega), ← List.take_succ_eq_append_getElem hlt]
        exact ih (m + 1) k (by omega) (by omega) (.inr (by omega))
    · rw [rfirst_exit k l a _ _ (.inl (by omega)) (by omega) (by omega) (by omega)]
      unfold firstB
      rw [if_neg (by omega)]
      by_cases h1 : a < 1
      · have hm0 : m = 0 := by omega
        rw [if_pos h1, hm0]
        rfl
      · rw [if_neg h1]
        unfold firstBits
        have hbb : bitBytes a.toNat = m := by unfold bitBytes; omega
        rw [if_pos (by omega), hbb]
theorem rfirst_f (l : List Int) (hb : BytesOk l) (a : Int) (hl : l.length < 140737488355328) (ha : a ≤ 9223372036854775807) (k : Nat) (hk : 2 * l.length + 2 ≤ k) : annalsref03_First.f k l a = some (firstB l a) := by
  unfold annalsref03_First.f
  have := rfirst_l0 l hb a hl ha l.length 0 k (by omega) hk (.inl rfl)
  exact this
theorem firstB_length (l : List Int) (a : Int) : (firstB l a).length ≤ l.length := by
  unfold firstB firstBits
  split
  · omega
  · split
    · simp
    · split
      · rw [List.length_take]; omega
      · rw [List.length_set, List.length_take]; omega
theorem bits_u8_range (op : BinOp) (x y : Int) : 0 ≤ Go.bits op .u8 x y ∧ Go.bits op .u8 x y ≤ 255 := by
  unfold Go.bits
  rw [IntKind.wrap_u8]
  omega
theorem firstB_ok (l : List Int) (hb : BytesOk l) (a : Int) : BytesOk (firstB l a) := by
  unfold firstB firstBits
  have ht (m : Nat) : BytesOk (l.take m) := fun x hx => hb x (List.mem_of_mem_take hx)
  split
  · exact hb
  · split
    · intro x hx; cases hx
    · split
      · exact ht _
      · intro x hx
        rcases List.mem_or_eq_of_mem_set hx with h | rfl
        · exact ht _ x h
        · unfold cutByte
          exact bits_u8_range _ _ _
end Go.Proofs.YtdeneoknjeegbaaDoor.P
end
section
set_option linter.unusedVariables false
set_option linter.unusedSimpArgs false
namespace Go.Proofs.YtdeneoknjeegbaaDoor.P
open Go.RowKit Go.Proofs.YtdeneoknjeegbaaDoorW.PrintWords Go.Proofs.YtdeneoknjeegbaaDoorW.PrintLast Go.Proofs.YtdeneoknjeegbaaDoorW.PrintMore
theorem raw_cell {w : World} {base : Nat} {g n c : Nat} {cs : List (List Value)} (h : CellsR w base (.slice (some ⟨g, 0, none⟩) n c) cs) (k : Nat) {row : List Value} (hk : cs[k]? = some row) (j : Nat) {u : Value} (hj : row[j]? = some u) : w.cell? ⟨g, k * 11 + j, none⟩ = some u := by
  have hrd := Kd.R_reads' h
  have hkl := (List.getElem?_eq_some_iff.1 hk).1
  obtain ⟨ad, cc, e, hcl, hcK, hcc⟩ := Kd.C_get hrd.2.2 ([] : List Value) (k : Int) (by omega) (by omega)
  obtain rfl : (⟨g, 0, none⟩ : Addr) = ad := Option.some.inj e
  have h0 := hcK.1
  rw [Int.toNat_natCast, List.getD_eq_getElem?_getD, hk] at h0
  have h1 : cc = row := h0
  have := hcc j u (by rw [h1]; exact hj)
  rwa [Int.toNat_natCast, add_plain] at this
theorem at_raw {w : World} {p : Nat} {size room : Int} {g n c : Nat} {vf : Value} (h : ABlk w p size room (.slice (some ⟨g, 0, none⟩) n c) vf) (hs : size ≠ 0) (hn : n ≤ 9223372036854775807) (k : Nat) (hk : k < n) (hc : w.cell? ⟨g, k * 11, none⟩ = some (.bool true)) :
    Calls Tryd.prog 51 #[.pointer (some ⟨p, 0, none⟩), .int .i64 (k : Int)] w fun e w' => e = .returned (.pointer (some ⟨g, k * 11 + 1, none⟩)) ∧ w = w' := by
  have HBk := Aside0.mk h
  have HS := Aside0.mk hs
  have hk2 : decide (n ≤ k) = false := decide_eq_false (by omega)
  have hk3 : (k : Int) < (n : Int) := by omega
  have hk4 : decide ((k : Int) < 0) = false := decide_eq_false (by omega)
  have hk5 : 0 ≤ (k : Int) := by omega
  clear h hs
  go_enter Tryd.func51, Tryd.ntmps51
  go_wp2_with fail
  refine (none_calls HBk.out HS.out).mono ?_
  rintro e w' ⟨rfl, rfl⟩
  obtain ⟨c0, c1, c2, c3⟩ := HBk.out.cells
  go_wp2_with fail
  go_ret
  exact ⟨rfl, rfl⟩
set_option maxRecDepth 100000 in
theorem hash_at {w : World} {p base : Nat} {size room : Int} {g n c : Nat} {vf : Value} {cs : List (List Value)} {ok : Nat → Prop} (h : ABlk w p size room (.slice (some ⟨g, 0, none⟩) n c) vf) (hR : CellsR w base (.slice (some ⟨g, 0, none⟩) n c) cs) (hs : size ≠ 0) (k : Nat) {row : List Value} (hk : cs[k]? = some row) (h0 : row[0]? = some (.bool true))
    {B9 : Option Addr} {d9 : Nat} {lh : List Int} (h9 : row[10]? = some (.slice B9 lh.length d9)) (hV : BytesV w ok (.slice B9 lh.length d9) lh) (hl : lh.length ≤ 32) :
    Calls Tryd.prog 33 #[.pointer (some ⟨p, 0, none⟩), .int .i64 (k : Int)] w fun e w' => ∃ v : Value, e = .returned v ∧ Kd.R (Kd.int .u8) 5 w' w.heap.size (fun _ => True) v lh ∧ Below w.heap.size w w' := by
  have hkl := (List.getElem?_eq_some_iff.1 hk).1
  have hrd := Kd.R_reads' hR
  have hc0 := raw_cell hR k hk 0 h0
  have hc9 := raw_cell hR k hk 10 h9
  have hn : n ≤ 9223372036854775807 := by have := hrd.2.2.2.1; omega
  have hkn : k < n := by omega
  have HAT := Aside0.mk (at_raw h hs hn k hkn hc0)
  have HBk := Aside0.mk h
  have HS := Aside0.mk hs
  have HV := Aside0.mk hV
  have HL := Aside0.mk hl
  clear h hR hs hk h0 h9 hV hl hkl hrd hc0 hn hkn
  go_enter Tryd.func33, Tryd.ntmps33
  go_wp2_with fail
  refine (none_calls HBk.out HS.out).mono ?_
  rintro e w' ⟨rfl, rfl⟩
  go_wp2_with fail
  refine HAT.out.mono ?_
  rintro e w' ⟨rfl, rfl⟩
  go_wp2_with fail
  refine (slices_Clone_byte_byte.calls B9 d9 lh lh _ (Kd.V_reads' HV.out).2.2 (Kd.V_reads' HV.out).2.1 (if_pos (by have := HL.out; omega))).mono ?_
  rintro e1 w1 ⟨v, rfl, hR1, hB1⟩
  have HR1 := Aside0.mk hR1
  have HB1 := Aside0.mk hB1
  clear hR1 hB1 hc9
  go_wp2_with fail
  go_ret
  exact ⟨_, rfl, HR1.out, HB1.out⟩
theorem leaf_hash_f (k : Nat) (hk : 3 < k) (size : Int) (l1 l2 : List Int) (since : Int) : arena_LeafHash.f k size l1 l2 since = some (hashB size 1 [l1, l2, num8 since]) := by
  unfold arena_LeafHash.f texts_Number.f
  simp only [Option.bind_some]
  rw [numBytes_eq, hash_f size 1 [l1, l2, num8 since] (by omega) (by simp) k (by simpa using hk)]
  rfl
theorem awake_hash : (hashB 4 1 [[97], [], num8 1]).length = 4 := by
  unfold hashB
  rw [if_neg (by decide), List.length_take, shaSum_length]
  rfl
theorem lit_C {w : World} {g : Nat} (h : w.heap[g]? = some (.cells #[.int .u8 97] 5 (1, 2))) : Kd.C (Kd.int .u8) w (some ⟨g, 0, none⟩) 1 [97] := by
  refine Kd.C_of_reads (h1 := fun _ => rfl) (d := 0) ⟨rfl, by decide, fun _ => ⟨_, rfl, fun j hj => ?_⟩⟩
  obtain rfl : j = 0 := by omega
  simp [World.cell?, Addr.add, h]
def annalslaw09_awake.f : Option Bool := some true
set_option maxHeartbeats 4000000 in
set_option maxRecDepth 100000 in
theorem annalslaw09_awake.calls (r : Bool) (w : World) (hGS : GlobS w) (h : annalslaw09_awake.f = some r) :
    Calls Tryd.prog 10 #[] w fun e w' => e = .returned (.bool r) ∧ Below w.heap.size w w' := by
  obtain rfl := Option.some.inj h
  have HGS := Aside0.mk hGS
  clear h hGS
  have kc := fun (w : World) (C : Array Value) (n c : Nat) => Lib.run_convert_bytes_const (P := Tryd.prog) w 31 5 C n c Tryd.underlying31 Tryd.underlying5
  go_enter Tryd.func10, Tryd.ntmps10
  go_wp2_with fail
  refine (new_calls 4 5 w (by decide) (by decide) (by decide) (by decide)).mono ?_
  rintro e w1 ⟨rfl, hA1, hB1⟩
  have HA1 := Aside0.mk hA1
  have HB1 := Aside0.mk hB1
  clear hA1 hB1
  go_wp2_with fail
  obtain ⟨W2, hW2⟩ : ∃ W2, W2 = w1.alloc (.cells #[.int .u8 97] 5 (1, 2)) := ⟨_, rfl⟩
  rw [← hW2]
  have hB2 : Below w1.heap.size w1 W2 := by rw [hW2]; exact below_alloc (Below.refl _ _) _
  have hI : W2.heap[w1.heap.size]? = some (.cells #[.int .u8 97] 5 (1, 2)) := by rw [hW2]; exact heap_alloc_new w1 _
  have hV1 : BytesV W2 (fun k => w1.heap.size ≤ k) (.slice (some ⟨w1.heap.size, 0, none⟩) ([97] : List Int).length 1) [97] := Kd.V_mk (Nat.le_refl _) (fun W' hW' => lit_C ((hW' _ (Nat.le_refl _) (blk_lt hI)).trans hI))
  have hV2 : BytesV W2 (fun _ => False) (.slice none ([] : List Int).length 0) [] := Kd.V_nil _ _ _ _ _
  have hA2 := HA1.out.below hB2
  have hwp : w.heap.size < w1.heap.size := HA1.out.lt
  have hG2 : GlobS W2 := GlobS.of HGS.out (HB1.out.trans (hB2.mono HB1.out.size))
  have hB02 : Below w.heap.size w W2 := HB1.out.trans (hB2.mono HB1.out.size)
  have HB02 := Aside0.mk hB02
  have HH := Aside0.mk awake_hash
  clear hW2 hB02
  refine (leaf_grow (base := w.heap.size) (cs := []) (fun k => w1.heap.size ≤ k) (fun _ => False) (some ⟨w1.heap.size, 0, none⟩) none 1 0 [97] [] (hashB 4 1 [[97], [], num8 1]) 1 4 hA2 (Kd.R_nil _ _ _ _ _) (by decide) (Nat.le_refl _) (by decide) (by decide) hV1 hV2 (fun k hk => ⟨by omega, by simp [Value.ownBlock]⟩) (fun _ h => h.elim) (by decide) (by decide) (by decide) hG2 (leaf_hash_f 4 (by decide) 4 [97] [] 1)).mono ?_
  rintro e3 w3 ⟨rfl, v1, B1, d1, B2, d2, B9, d9, hA3, hR3, -, -, hV3, -, -, hBe3⟩
  rw [HH.out] at hR3
  obtain ⟨Av, cv, rfl⟩ := Kd.R_slice hR3
  have hB3 : Below w.heap.size w w3 := HB02.out.trans (hBe3 HB02.out.size)
  have hAv : ∃ g, Av = some ⟨g, 0, none⟩ := by
    have hrd := Kd.R_reads' hR3
    obtain ⟨ad, cc, rfl, hcl, hcK, hcc⟩ := Kd.C_get hrd.2.2 ([] : List Value) 0 (Int.le_refl _) (Int.natCast_pos.2 (Nat.succ_pos _))
    obtain ⟨g, rfl⟩ := Kd.R_head hR3
    exact ⟨g, rfl⟩
  obtain ⟨g, rfl⟩ := hAv
  have HA3 := Aside0.mk (show ABlk w3 w.heap.size 4 5 (.slice (some ⟨g, 0, none⟩) 1 cv) (.slice none 0 0) from hA3)
  have HR3 := Aside0.mk hR3
  have HV3 := Aside0.mk hV3
  have HB3 := Aside0.mk hB3
  clear hA3 hR3 hV3 hB3 hBe3 hV1 hV2 hA2 hI hB2 hwp hG2
  go_wp2_with fail
  refine (used_calls HA3.out (by decide) (by decide) (by decide)).mono ?_
  rintro e4 w4 ⟨rfl, ⟨m, rfl⟩⟩
  have hB4 : Below w3.heap.size w3 (w3.drewN m) := pw_below_drewN (Below.refl _ _) _
  have HA4 := Aside0.mk (HA3.out.below hB4)
  have HR4 := Aside0.mk (Kd.R_below HR3.out hB4)
  have HV4 := Aside0.mk (Kd.V_below HV3.out hB4)
  have HB4 := Aside0.mk (HB3.out.trans (hB4.mono HB3.out.size))
  clear hB4
  go_wp2_with fail
  refine (hash_at (lh := hashB 4 1 [[97], [], num8 1]) HA4.out HR4.out (by decide) 0 rfl rfl (by rw [HH.out]; rfl) HV4.out (by rw [HH.out]; decide)).mono ?_
  rintro e5 w5 ⟨v, rfl, hR5, hB5⟩
  have hl5 := (Kd.R_slice hR5)
  rw [HH.out] at hl5
  obtain ⟨A5, c5, rfl⟩ := hl5
  have HB5 := Aside0.mk (HB4.out.trans (hB5.mono HB4.out.size))
  clear hR5 hB5
  go_wp2_with fail
  go_ret
  exact ⟨rfl, HB5.out⟩
end Go.Proofs.YtdeneoknjeegbaaDoor.P
end
section
namespace Go.Proofs.YtdeneoknjeegbaaDoor.P
open Go.RowKit Go.Proofs.YtdeneoknjeegbaaDoorW.PrintWords Go.Proofs.YtdeneoknjeegbaaDoorW.PrintLast Go.Proofs.YtdeneoknjeegbaaDoorW.PrintMore
attribute [local go_sem] max2_int min2_int max_two min_two max_three min_three max_four min_four
set_option linter.unusedVariables false
set_option linter.unusedSimpArgs false
def arena_ForkHash.f (k : Nat) (a0 : Int) (a1 : Int) (l2 : List Int) (a3 : Int) (l4 : List Int) (l5 : List Int) : Option (List Int) := (texts_Number.f a1).bind fun t212 => ((bits_First.f l2 a1).bind fun t215 => ((texts_Number.f a3).bind fun t218 => ((texts_Hash.f k a0 2 (([t212, t215, t218, l4, l5] : List (List Int)))).bind fun t224 => (some t224))))
set_option maxHeartbeats 8000000 in
set_option maxRecDepth 100000 in
theorem arena_ForkHash.calls (k : Nat) (a0 : Int) (a1 : Int) (A2 : Option Addr) (c2 : Nat) (l2 : List Int) (a3 : Int) (P4_ : Nat → Prop) (A4 : Option Addr) (c4 : Nat) (l4 : List Int) (P5_ : Nat → Prop) (A5 : Option Addr) (c5 : Nat) (l5 : List Int) (r : List Int) (w : World) (hr2 : Kd.C (Kd.int .u8) w A2 l2.length l2) (hc2 : l2.length ≤ c2) (hs4 : Kd.V (Kd.int .u8) 5 w w.heap.size (fun k_ => P4_ k_) (.slice A4 l4.length c4) l4) (hs5 : Kd.V (Kd.int .u8) 5 w w.heap.size (fun k_ => P5_ k_) (.slice A5 l5.length c5) l5) (hGS : GlobS w) (h : arena_ForkHash.f k a0 a1 l2 a3 l4 l5 = some r) :
    Calls Tryd.prog 78 #[.int .i64 a0, .int .i64 a1, .slice A2 l2.length c2, .int .i64 a3, .slice A4 l4.length c4, .slice A5 l5.length c5] w fun e w' => ∃ v0_ : Value, e = .returned (v0_) ∧ Kd.V (Kd.int .u8) 5 w' w.heap.size (fun k_ => ((P4_ k_ ∨ P5_ k_) ∨ w.heap.size ≤ k_)) v0_ r ∧ Below w.heap.size w w' := by
  have HGS := Aside0.mk hGS
  clear hGS
  have HR2 := Aside0.mk hr2
  have HC2 := Aside0.mk hc2
  clear hr2 hc2
  have HO4 := Aside0.mk (show Kd.V (Kd.int .u8) 5 w w.heap.size (fun k_ => ((P4_ k_ ∨ P5_ k_) ∨ w.heap.size ≤ k_)) (.slice A4 l4.length c4) l4 from Kd.V_mono hs4 (fun k_ hk => .inl (.inl hk)))
  have HO5 := Aside0.mk (show Kd.V (Kd.int .u8) 5 w w.heap.size (fun k_ => ((P4_ k_ ∨ P5_ k_) ∨ w.heap.size ≤ k_)) (.slice A5 l5.length c5) l5 from Kd.V_mono hs5 (fun k_ hk => .inl (.inr hk)))
  have HB := Aside0.mk (Below.refl w.heap.size w)
  have H : ((texts_Number.f a1).bind fun t212 => ((bits_First.f l2 a1).bind fun t215 => ((texts_Number.f a3).bind fun t218 => ((texts_Hash.f k a0 2 (([t212, t215, t218, l4, l5] : List (List Int)))).bind fun t224 => (some t224))))) = some r := h
  clear h
  replace H := Option.bind_eq_some_iff.mp H
  obtain ⟨t212, A70, H⟩ := H
  replace H : ((bits_First.f l2 a1).bind fun t215 => ((texts_Number.f a3).bind fun t218 => ((texts_Hash.f k a0 2 (([t212, t215, t218, l4, l5] : List (List Int)))).bind fun t224 => (some t224)))) = some r := H
  have A7 := Aside0.mk A70
  clear A70
  replace H := Option.bind_eq_some_iff.mp H
  obtain ⟨t215, A80, H⟩ := H
  replace H : ((texts_Number.f a3).bind fun t218 => ((texts_Hash.f k a0 2 (([t212, t215, t218, l4, l5] : List (List Int)))).bind fun t224 => (some t224))) = some r := H
  have A8 := Aside0.mk A80
  clear A80
  replace H := Option.bind_eq_some_iff.mp H
  obtain ⟨t218, A90, H⟩ := H
  replace H : ((texts_Hash.f k a0 2 (([t212, t215, t218, l4, l5] : List (List Int)))).bind fun t224 => (some t224)) = some r := H
  have A9 := Aside0.mk A90
  clear A90
  obtain ⟨y221, hy221⟩ : ∃ y_ : List (List Int), y_ = (([t212, t215, t218, l4, l5] : List (List Int))) := ⟨_, rfl⟩
  replace H : ((texts_Hash.f k a0 2 y221).bind fun t224 => (some t224)) = some r := by first | (rw [hy221]; with_reducible exact H) | (have H2_ := (Option.bind_some _ _).symm.trans H; rw [hy221]; with_reducible exact H2_) | (have H2_ := (Option.bind_some _ _).symm.trans H; with_reducible exact H2_) | with_reducible exact H | (rw [hy221]; exact H) | exact H
  have Ny221 := Aside0.mk hy221
  clear hy221
  replace H := Option.bind_eq_some_iff.mp H
  obtain ⟨t224, A100, H⟩ := H
  replace H : (some t224) = some r := H
  have A10 := Aside0.mk A100
  clear A100
  obtain rfl := Option.some.inj H
  go_enter Tryd.func78, Tryd.ntmps78
  go_wp2_with (first | ((with_reducible refine gate_callee (f := 94) rfl ?_); refine goesL_ (some 15) rfl rfl Tryd.func94 (by kernel_rfl) rfl #[.int .i64 a1] rfl (by (try simp only [List.map_toArray, List.map_cons, List.map_nil]); first | done | rfl | (simp only [List.length_drop, List.length_take]; rfl)) ?_; (with_reducible refine (texts_Number.calls a1 t212 _ A7.out).mono ?_); rintro e w11 ⟨v213, rfl, ho0, hb⟩; refine ⟨_, rfl, ?_⟩; have n0_ := Aside0.mk (Kd.V_below (by (with_reducible repeat (first | apply Kd.V_alloc | apply Kd.V_drewN | apply Kd.V_drew)); exact HO4.out) hb); have n1_ := Aside0.mk (Kd.V_below (by (with_reducible repeat (first | apply Kd.V_alloc | apply Kd.V_drewN | apply Kd.V_drew)); exact HO5.out) hb); have n2_ := Aside0.mk (Kd.V_lower (Kd.V_mono (ok' := fun k_ => ((P4_ k_ ∨ P5_ k_) ∨ w.heap.size ≤ k_)) ho0 (fun k_ hk_ => (.inr (Nat.le_trans (below_size (by repeat (first | (with_reducible first | exact HB.out | apply below_alloc | apply pw_below_drewN | apply below_drew1) | exact HB.out))) hk_)))) (below_size (by repeat (first | (with_reducible first | exact HB.out | apply below_alloc | apply pw_below_drewN | apply below_drew1) | exact HB.out)))); have n3_ := Aside0.mk (below_step (by repeat (first | (with_reducible first | exact HB.out | apply below_alloc | apply pw_below_drewN | apply below_drew1) | exact HB.out)) hb); clear HO4; clear HO5; clear HB; have HO4 := n0_; have HO5 := n1_; have HO214 := n2_; have HB := n3_; clear n0_ n1_ n2_ n3_; (try clear hb); (try clear hb2); (try clear hk); (try clear hi); (try clear ho0)) | ((with_reducible refine gate_callee (f := 77) rfl ?_); refine goesL_ (some 18) rfl rfl Tryd.func77 (by kernel_rfl) rfl #[.slice A2 l2.length c2, .int .i64 a1] rfl (by (try simp only [List.map_toArray, List.map_cons, List.map_nil]); first | done | rfl | (simp only [List.length_drop, List.length_take]; rfl)) ?_; (with_reducible refine (bits_First.calls _ _ l2 a1 t215 _ ?side1 ?side2 A8.out).mono ?_); (case side1 => repeat (first | exact (Kd.C_below HR2.out HB.out) | (with_reducible refine Kd.C_alloc ?_ _) | (with_reducible refine Kd.C_drewN ?_ _) | (with_reducible refine Kd.C_drew ?_))); (case side2 => exact HC2.out); rintro e w12 ⟨v216, rfl, ho0, hb⟩; refine ⟨_, rfl, ?_⟩; have n0_ := Aside0.mk (Kd.V_elder' (by (with_reducible repeat (first | apply Kd.V_alloc | apply Kd.V_drewN | apply Kd.V_drew)); exact HO4.out) (Kd.R_base ho0) hb); have n1_ := Aside0.mk (Kd.V_elder' (by (with_reducible repeat (first | apply Kd.V_alloc | apply Kd.V_drewN | apply Kd.V_drew)); exact HO5.out) (Kd.R_base ho0) hb); have n2_ := Aside0.mk (Kd.V_elder' (by (with_reducible repeat (first | apply Kd.V_alloc | apply Kd.V_drewN | apply Kd.V_drew)); exact HO214.out) (Kd.R_base ho0) hb); have n3_ := Aside0.mk (Kd.R_lower (Kd.R_newM (M := fun k_ => (w.heap.size ≤ k_)) ho0 (below_size (by repeat (first | (with_reducible first | exact HB.out | apply below_alloc | apply pw_below_drewN | apply below_drew1) | exact HB.out))) (fun k_ h_ => h_)) (below_size (by repeat (first | (with_reducible first | exact HB.out | apply below_alloc | apply pw_below_drewN | apply below_drew1) | exact HB.out)))); have n4_ := Aside0.mk (below_step (by repeat (first | (with_reducible first | exact HB.out | apply below_alloc | apply pw_below_drewN | apply below_drew1) | exact HB.out)) hb); clear HO4; clear HO5; clear HO214; clear HB; have HO4 := n0_; have HO5 := n1_; have HO214 := n2_; have HO217 := n3_; have HB := n4_; clear n0_ n1_ n2_ n3_ n4_; (try clear hb); (try clear hb2); (try clear hk); (try clear hi); (try clear ho0)) | ((with_reducible refine gate_callee (f := 94) rfl ?_); refine goesL_ (some 20) rfl rfl Tryd.func94 (by kernel_rfl) rfl #[.int .i64 a3] rfl (by (try simp only [List.map_toArray, List.map_cons, List.map_nil]); first | done | rfl | (simp only [List.length_drop, List.length_take]; rfl)) ?_; (with_reducible refine (texts_Number.calls a3 t218 _ A9.out).mono ?_); rintro e w13 ⟨v219, rfl, ho0, hb⟩; refine ⟨_, rfl, ?_⟩; have n0_ := Aside0.mk (Kd.V_below (by (with_reducible repeat (first | apply Kd.V_alloc | apply Kd.V_drewN | apply Kd.V_drew)); exact HO4.out) hb); have n1_ := Aside0.mk (Kd.V_below (by (with_reducible repeat (first | apply Kd.V_alloc | apply Kd.V_drewN | apply Kd.V_drew)); exact HO5.out) hb); have n2_ := Aside0.mk (Kd.V_below (by (with_reducible repeat (first | apply Kd.V_alloc | apply Kd.V_drewN | apply Kd.V_drew)); exact HO214.out) hb); have n3_ := Aside0.mk (Kd.R_below (by (with_reducible repeat (first | apply Kd.R_alloc | apply Kd.R_drewN | apply Kd.R_drew)); exact HO217.out) hb); have n4_ := Aside0.mk (Kd.V_lower (Kd.V_mono (ok' := fun k_ => ((P4_ k_ ∨ P5_ k_) ∨ w.heap.size ≤ k_) ∧ some k_ ≠ (v216 : Value).ownBlock) ho0 (fun k_ hk_ => ⟨(.inr (Nat.le_trans (below_size (by repeat (first | (with_reducible first | exact HB.out | apply below_alloc | apply pw_below_drewN | apply below_drew1) | exact HB.out))) hk_)), (Kd.fresh' (Kd.R_lt (by (with_reducible repeat (first | apply Kd.R_alloc | apply Kd.R_drewN | apply Kd.R_drew)); exact HO217.out)) k_ hk_)⟩)) (below_size (by repeat (first | (with_reducible first | exact HB.out | apply below_alloc | apply pw_below_drewN | apply below_drew1) | exact HB.out)))); have n5_ := Aside0.mk (below_step (by repeat (first | (with_reducible first | exact HB.out | apply below_alloc | apply pw_below_drewN | apply below_drew1) | exact HB.out)) hb); clear HO4; clear HO5; clear HO214; clear HO217; clear HB; have HO4 := n0_; have HO5 := n1_; have HO214 := n2_; have HO217 := n3_; have HO220 := n4_; have HB := n5_; clear n0_ n1_ n2_ n3_ n4_ n5_; (try clear hb); (try clear hb2); (try clear hk); (try clear hi); (try clear ho0); obtain ⟨Ao14, co14, eo14⟩ := Kd.V_slice HO214.out; subst eo14; obtain ⟨Ao15, co15, eo15⟩ := Kd.R_slice HO217.out; subst eo15; obtain ⟨Ao16, co16, eo16⟩ := Kd.V_slice HO220.out; subst eo16) | ((with_reducible refine gate_dst (N := 23) rfl ?_); refine Kd.N_lit (Kd.slice 5 (Kd.int .u8)) _ 31 ?hg (N' := 23) ?hd (xs := ([t212, t215, t218, l4, l5] : List (List Int))) (inner := [.slice Ao14 t212.length co14, .slice Ao15 t215.length co15, .slice Ao16 t218.length co16, .slice A4 l4.length c4, .slice A5 l5.length c5]) (ok := (fun k_ => ((P4_ k_ ∨ P5_ k_) ∨ w.heap.size ≤ k_))) (okp := (fun k_ => ((P4_ k_ ∨ P5_ k_) ∨ w.heap.size ≤ k_))) ?hr ?hp (fun _ hk => hk) ((show ∀ k_, w13.heap.size ≤ k_ → (fun k_ => ((P4_ k_ ∨ P5_ k_) ∨ w.heap.size ≤ k_)) k_ from fun k_ hk => (.inr (Nat.le_trans (below_size (by repeat (first | (with_reducible first | exact HB.out | apply below_alloc | apply pw_below_drewN | apply below_drew1) | exact HB.out))) hk))) _ (Nat.le_refl _)) (Below.refl _ _) (Nat.le_refl _) (by simp) ?_; (case hd => rfl); (case hg => rfl); (case hr => first | (go_simp; done) | (go_simp; rfl)); (case hp => exact (Reps.one (show Kd.FK (Kd.slice 5 (Kd.int .u8)) _ _ t212 [.slice Ao14 t212.length co14] from (Kd.FK_slice_mk (Kd.V_reads' (Kd.V_mono (ok' := (fun k_ => ((P4_ k_ ∨ P5_ k_) ∨ w.heap.size ≤ k_))) (HO214.out) (fun k_ hk => hk.1))).2.1 (Kd.V_F (Kd.V_mono (ok' := (fun k_ => ((P4_ k_ ∨ P5_ k_) ∨ w.heap.size ≤ k_))) (HO214.out) (fun k_ hk => hk.1))))) (Reps.one (show Kd.FK (Kd.slice 5 (Kd.int .u8)) _ _ t215 [.slice Ao15 t215.length co15] from (Kd.FK_slice_mk (Kd.R_reads' (Kd.R_mono (ok' := (fun k_ => ((P4_ k_ ∨ P5_ k_) ∨ w.heap.size ≤ k_))) (HO217.out) (fun k_ hk => (.inr (hk.1))))).2.1 (Kd.R_F (Kd.R_mono (ok' := (fun k_ => ((P4_ k_ ∨ P5_ k_) ∨ w.heap.size ≤ k_))) (HO217.out) (fun k_ hk => (.inr (hk.1))))))) (Reps.one (show Kd.FK (Kd.slice 5 (Kd.int .u8)) _ _ t218 [.slice Ao16 t218.length co16] from (Kd.FK_slice_mk (Kd.V_reads' (Kd.V_mono (ok' := (fun k_ => ((P4_ k_ ∨ P5_ k_) ∨ w.heap.size ≤ k_))) (HO220.out) (fun k_ hk => hk.1))).2.1 (Kd.V_F (Kd.V_mono (ok' := (fun k_ => ((P4_ k_ ∨ P5_ k_) ∨ w.heap.size ≤ k_))) (HO220.out) (fun k_ hk => hk.1))))) (Reps.one (show Kd.FK (Kd.slice 5 (Kd.int .u8)) _ _ l4 [.slice A4 l4.length c4] from (Kd.FK_slice_mk (Kd.V_reads' (Kd.V_mono (ok' := (fun k_ => ((P4_ k_ ∨ P5_ k_) ∨ w.heap.size ≤ k_))) (HO4.out) (fun k_ hk => hk.1))).2.1 (Kd.V_F (Kd.V_mono (ok' := (fun k_ => ((P4_ k_ ∨ P5_ k_) ∨ w.heap.size ≤ k_))) (HO4.out) (fun k_ hk => hk.1))))) (Reps.one (show Kd.FK (Kd.slice 5 (Kd.int .u8)) _ _ l5 [.slice A5 l5.length c5] from (Kd.FK_slice_mk (Kd.V_reads' (Kd.V_mono (ok' := (fun k_ => ((P4_ k_ ∨ P5_ k_) ∨ w.heap.size ≤ k_))) (HO5.out) (fun k_ hk => hk.1))).2.1 (Kd.V_F (Kd.V_mono (ok' := (fun k_ => ((P4_ k_ ∨ P5_ k_) ∨ w.heap.size ≤ k_))) (HO5.out) (fun k_ hk => hk.1))))) (Reps.none _ _))))))); intro v222 w17 ho18 hb hg_ hnew_; clear hg_ hnew_; (first | rw [← Ny221.out] at ho18 | (simp only [Int.reduceToNat] at ho18; rw [← Ny221.out] at ho18)); have n0_ := Aside0.mk (Kd.V_elder' (by (with_reducible repeat (first | apply Kd.V_alloc | apply Kd.V_drewN | apply Kd.V_drew)); exact HO4.out) (Kd.N_base ho18) hb); have n1_ := Aside0.mk (Kd.V_elder' (by (with_reducible repeat (first | apply Kd.V_alloc | apply Kd.V_drewN | apply Kd.V_drew)); exact HO5.out) (Kd.N_base ho18) hb); have n2_ := Aside0.mk (Kd.V_elder' (by (with_reducible repeat (first | apply Kd.V_alloc | apply Kd.V_drewN | apply Kd.V_drew)); exact HO214.out) (Kd.N_base ho18) hb); have n3_ := Aside0.mk (Kd.V_elder' (by (with_reducible repeat (first | apply Kd.V_alloc | apply Kd.V_drewN | apply Kd.V_drew)); exact HO220.out) (Kd.N_base ho18) hb); have n4_ := Aside0.mk (Kd.N_lower ho18 (below_size (by repeat (first | (with_reducible first | exact HB.out | apply below_alloc | apply pw_below_drewN | apply below_drew1) | exact HB.out)))); have n5_ := Aside0.mk (below_step (by repeat (first | (with_reducible first | exact HB.out | apply below_alloc | apply pw_below_drewN | apply below_drew1) | exact HB.out)) hb); clear HO4; clear HO5; clear HO214; clear HO220; clear HB; clear HO217; have HO4 := n0_; have HO5 := n1_; have HO214 := n2_; have HO220 := n3_; have HO223 := n4_; have HB := n5_; clear n0_ n1_ n2_ n3_ n4_ n5_; clear hb ho18; obtain ⟨Ao19, co19, eo19⟩ := Kd.N_slice HO223.out; subst eo19) | ((with_reducible refine gate_callee (f := 70) rfl ?_); refine goesL_ (some 24) rfl rfl Tryd.func70 (by kernel_rfl) rfl #[.int .i64 a0, .int .i64 2, .slice Ao19 y221.length co19] rfl (by (try simp only [List.map_toArray, List.map_cons, List.map_nil]); first | done | rfl | (simp only [List.length_drop, List.length_take]; rfl)) ?_; (with_reducible refine (texts_Hash.calls k a0 2 _ _ y221 t224 _ ?side1 ?side2 (by first | (with_reducible exact HGS.out) | exact GlobS.of HGS.out (by repeat (first | (with_reducible first | exact HB.out | apply below_alloc | apply pw_below_drewN | apply below_drew1) | exact HB.out)) | exact GlobS.of HGS.out (by repeat (first | exact Below.refl _ _ | apply below_alloc | apply pw_below_drewN | apply below_drew1))) A10.out).mono ?_); (case side1 => repeat (first | exact (Kd.N_reads' HO223.out).2.2 | (with_reducible refine Kd.C_alloc ?_ _) | (with_reducible refine Kd.C_drewN ?_ _) | (with_reducible refine Kd.C_drew ?_))); (case side2 => exact (Kd.N_reads' HO223.out).2.1); rintro e w20 ⟨v225, rfl, ho0, hb⟩; refine ⟨_, rfl, ?_⟩; have n0_ := Aside0.mk (Kd.V_below (by (with_reducible repeat (first | apply Kd.V_alloc | apply Kd.V_drewN | apply Kd.V_drew)); exact HO4.out) hb); have n1_ := Aside0.mk (Kd.V_below (by (with_reducible repeat (first | apply Kd.V_alloc | apply Kd.V_drewN | apply Kd.V_drew)); exact HO5.out) hb); have n2_ := Aside0.mk (Kd.V_below (by (with_reducible repeat (first | apply Kd.V_alloc | apply Kd.V_drewN | apply Kd.V_drew)); exact HO214.out) hb); have n3_ := Aside0.mk (Kd.V_below (by (with_reducible repeat (first | apply Kd.V_alloc | apply Kd.V_drewN | apply Kd.V_drew)); exact HO220.out) hb); have n4_ := Aside0.mk (Kd.N_below (by (with_reducible repeat (first | apply Kd.N_alloc | apply Kd.N_drewN | apply Kd.N_drew)); exact HO223.out) hb); have n5_ := Aside0.mk (Kd.V_lower (Kd.V_mono (ok' := fun k_ => ((P4_ k_ ∨ P5_ k_) ∨ w.heap.size ≤ k_) ∧ some k_ ≠ (.slice Ao19 y221.length co19 : Value).ownBlock) ho0 (fun k_ hk_ => ⟨(.inr (Nat.le_trans (below_size (by repeat (first | (with_reducible first | exact HB.out | apply below_alloc | apply pw_below_drewN | apply below_drew1) | exact HB.out))) hk_)), (Kd.fresh' (Kd.N_lt (by (with_reducible repeat (first | apply Kd.N_alloc | apply Kd.N_drewN | apply Kd.N_drew)); exact HO223.out)) k_ hk_)⟩)) (below_size (by repeat (first | (with_reducible first | exact HB.out | apply below_alloc | apply pw_below_drewN | apply below_drew1) | exact HB.out)))); have n6_ := Aside0.mk (below_step (by repeat (first | (with_reducible first | exact HB.out | apply below_alloc | apply pw_below_drewN | apply below_drew1) | exact HB.out)) hb); clear HO4; clear HO5; clear HO214; clear HO220; clear HO223; clear HB; have HO4 := n0_; have HO5 := n1_; have HO214 := n2_; have HO220 := n3_; have HO223 := n4_; have HO226 := n5_; have HB := n6_; clear n0_ n1_ n2_ n3_ n4_ n5_ n6_; (try clear hb); (try clear hb2); (try clear hk); (try clear hi); (try clear ho0)))
  go_ret
  exact ⟨_, by first | rfl | (simp [errW_none, errW_some] <;> rfl) | (simp [*, errW_none, errW_some] <;> rfl), by (with_reducible repeat (first | apply Kd.V_alloc | apply Kd.V_drewN | apply Kd.V_drew)); exact Kd.V_mono HO226.out (fun _ hk => hk.1), by repeat (first | (with_reducible first | exact HB.out | apply below_alloc | apply pw_below_drewN | apply below_drew1) | exact HB.out)⟩
end Go.Proofs.YtdeneoknjeegbaaDoor.P
end
section
namespace Go.Proofs.YtdeneoknjeegbaaDoor.P
open Go.RowKit Go.Proofs.YtdeneoknjeegbaaDoorW.PrintWords Go.Proofs.YtdeneoknjeegbaaDoorW.PrintLast Go.Proofs.YtdeneoknjeegbaaDoorW.PrintMore
attribute [local go_sem] max2_int min2_int max_two min_two max_three min_three max_four min_four
set_option linter.unusedVariables false
set_option linter.unusedSimpArgs false
def annalsref09_LeafHash.f (k : Nat) (a0 : Int) (l1 : List Int) (l2 : List Int) (a3 : Int) : Option (List Int) := (annalsref02_Number.f k a3).bind fun t188 => ((annalsref02_Hash.f k a0 1 (([l1, l2, t188] : List (List Int)))).bind fun t194 => (some t194))
set_option maxHeartbeats 8000000 in
set_option maxRecDepth 100000 in
theorem annalsref09_LeafHash.calls (k : Nat) (a0 : Int) (P1_ : Nat → Prop) (A1 : Option Addr) (c1 : Nat) (l1 : List Int) (P2_ : Nat → Prop) (A2 : Option Addr) (c2 : Nat) (l2 : List Int) (a3 : Int) (r : List Int) (w : World) (hs1 : Kd.V (Kd.int .u8) 5 w w.heap.size (fun k_ => P1_ k_) (.slice A1 l1.length c1) l1) (hs2 : Kd.V (Kd.int .u8) 5 w w.heap.size (fun k_ => P2_ k_) (.slice A2 l2.length c2) l2) (h : annalsref09_LeafHash.f k a0 l1 l2 a3 = some r) :
    Calls Tryd.prog 76 #[.int .i64 a0, .slice A1 l1.length c1, .slice A2 l2.length c2, .int .i64 a3] w fun e w' => ∃ v0_ : Value, e = .returned (v0_) ∧ Kd.R (Kd.int .u8) 5 w' w.heap.size (fun k_ => (w.heap.size ≤ k_)) v0_ r ∧ Below w.heap.size w w' := by
  have HO1 := Aside0.mk (show Kd.V (Kd.int .u8) 5 w w.heap.size (fun k_ => ((P1_ k_ ∨ P2_ k_) ∨ w.heap.size ≤ k_)) (.slice A1 l1.length c1) l1 from Kd.V_mono hs1 (fun k_ hk => .inl (.inl hk)))
  have HO2 := Aside0.mk (show Kd.V (Kd.int .u8) 5 w w.heap.size (fun k_ => ((P1_ k_ ∨ P2_ k_) ∨ w.heap.size ≤ k_)) (.slice A2 l2.length c2) l2 from Kd.V_mono hs2 (fun k_ hk => .inl (.inr hk)))
  have HB := Aside0.mk (Below.refl w.heap.size w)
  have H : ((annalsref02_Number.f k a3).bind fun t188 => ((annalsref02_Hash.f k a0 1 (([l1, l2, t188] : List (List Int)))).bind fun t194 => (some t194))) = some r := h
  clear h
  replace H := Option.bind_eq_some_iff.mp H
  obtain ⟨t188, A50, H⟩ := H
  replace H : ((annalsref02_Hash.f k a0 1 (([l1, l2, t188] : List (List Int)))).bind fun t194 => (some t194)) = some r := H
  have A5 := Aside0.mk A50
  clear A50
  obtain ⟨y191, hy191⟩ : ∃ y_ : List (List Int), y_ = (([l1, l2, t188] : List (List Int))) := ⟨_, rfl⟩
  replace H : ((annalsref02_Hash.f k a0 1 y191).bind fun t194 => (some t194)) = some r := by first | (rw [hy191]; with_reducible exact H) | (have H2_ := (Option.bind_some _ _).symm.trans H; rw [hy191]; with_reducible exact H2_) | (have H2_ := (Option.bind_some _ _).symm.trans H; with_reducible exact H2_) | with_reducible exact H | (rw [hy191]; exact H) | exact H
  have Ny191 := Aside0.mk hy191
  clear hy191
  replace H := Option.bind_eq_some_iff.mp H
  obtain ⟨t194, A60, H⟩ := H
  replace H : (some t194) = some r := H
  have A6 := Aside0.mk A60
  clear A60
  obtain rfl := Option.some.inj H
  go_enter Tryd.func76, Tryd.ntmps76
  go_wp2_with (first | ((with_reducible refine gate_callee (f := 96) rfl ?_); refine goesL_ (some 13) rfl rfl Tryd.func96 (by kernel_rfl) rfl #[.int .i64 a3] rfl (by (try simp only [List.map_toArray, List.map_cons, List.map_nil]); first | done | rfl | (simp only [List.length_drop, List.length_take]; rfl)) ?_; (with_reducible refine (annalsref02_Number.calls k a3 t188 _ A5.out).mono ?_); rintro e w7 ⟨v189, rfl, ho0, hb⟩; refine ⟨_, rfl, ?_⟩; have n0_ := Aside0.mk (Kd.V_elder' (by (with_reducible repeat (first | apply Kd.V_alloc | apply Kd.V_drewN | apply Kd.V_drew)); exact HO1.out) (Kd.R_base ho0) hb); have n1_ := Aside0.mk (Kd.V_elder' (by (with_reducible repeat (first | apply Kd.V_alloc | apply Kd.V_drewN | apply Kd.V_drew)); exact HO2.out) (Kd.R_base ho0) hb); have n2_ := Aside0.mk (Kd.R_lower (Kd.R_newM (M := fun k_ => (w.heap.size ≤ k_)) ho0 (below_size (by repeat (first | (with_reducible first | exact HB.out | apply below_alloc | apply pw_below_drewN | apply below_drew1) | exact HB.out))) (fun k_ h_ => h_)) (below_size (by repeat (first | (with_reducible first | exact HB.out | apply below_alloc | apply pw_below_drewN | apply below_drew1) | exact HB.out)))); have n3_ := Aside0.mk (below_step (by repeat (first | (with_reducible first | exact HB.out | apply below_alloc | apply pw_below_drewN | apply below_drew1) | exact HB.out)) hb); clear HO1; clear HO2; clear HB; have HO1 := n0_; have HO2 := n1_; have HO190 := n2_; have HB := n3_; clear n0_ n1_ n2_ n3_; (try clear hb); (try clear hb2); (try clear hk); (try clear hi); (try clear ho0); obtain ⟨Ao8, co8, eo8⟩ := Kd.R_slice HO190.out; subst eo8) | ((with_reducible refine gate_dst (N := 14) rfl ?_); refine Kd.N_lit (Kd.slice 5 (Kd.int .u8)) _ 31 ?hg (N' := 14) ?hd (xs := ([l1, l2, t188] : List (List Int))) (inner := [.slice A1 l1.length c1, .slice A2 l2.length c2, .slice Ao8 t188.length co8]) (ok := (fun k_ => ((P1_ k_ ∨ P2_ k_) ∨ w.heap.size ≤ k_))) (okp := (fun k_ => ((P1_ k_ ∨ P2_ k_) ∨ w.heap.size ≤ k_))) ?hr ?hp (fun _ hk => hk) ((show ∀ k_, w7.heap.size ≤ k_ → (fun k_ => ((P1_ k_ ∨ P2_ k_) ∨ w.heap.size ≤ k_)) k_ from fun k_ hk => (.inr (Nat.le_trans (below_size (by repeat (first | (with_reducible first | exact HB.out | apply below_alloc | apply pw_below_drewN | apply below_drew1) | exact HB.out))) hk))) _ (Nat.le_refl _)) (Below.refl _ _) (Nat.le_refl _) (by simp) ?_; (case hd => rfl); (case hg => rfl); (case hr => first | (go_simp; done) | (go_simp; rfl)); (case hp => exact (Reps.one (show Kd.FK (Kd.slice 5 (Kd.int .u8)) _ _ l1 [.slice A1 l1.length c1] from (Kd.FK_slice_mk (Kd.V_reads' (Kd.V_mono (ok' := (fun k_ => ((P1_ k_ ∨ P2_ k_) ∨ w.heap.size ≤ k_))) (HO1.out) (fun k_ hk => hk.1))).2.1 (Kd.V_F (Kd.V_mono (ok' := (fun k_ => ((P1_ k_ ∨ P2_ k_) ∨ w.heap.size ≤ k_))) (HO1.out) (fun k_ hk => hk.1))))) (Reps.one (show Kd.FK (Kd.slice 5 (Kd.int .u8)) _ _ l2 [.slice A2 l2.length c2] from (Kd.FK_slice_mk (Kd.V_reads' (Kd.V_mono (ok' := (fun k_ => ((P1_ k_ ∨ P2_ k_) ∨ w.heap.size ≤ k_))) (HO2.out) (fun k_ hk => hk.1))).2.1 (Kd.V_F (Kd.V_mono (ok' := (fun k_ => ((P1_ k_ ∨ P2_ k_) ∨ w.heap.size ≤ k_))) (HO2.out) (fun k_ hk => hk.1))))) (Reps.one (show Kd.FK (Kd.slice 5 (Kd.int .u8)) _ _ t188 [.slice Ao8 t188.length co8] from (Kd.FK_slice_mk (Kd.R_reads' (Kd.R_mono (ok' := (fun k_ => ((P1_ k_ ∨ P2_ k_) ∨ w.heap.size ≤ k_))) (HO190.out) (fun k_ hk => (.inr (hk.1))))).2.1 (Kd.R_F (Kd.R_mono (ok' := (fun k_ => ((P1_ k_ ∨ P2_ k_) ∨ w.heap.size ≤ k_))) (HO190.out) (fun k_ hk => (.inr (hk.1))))))) (Reps.none _ _))))); intro v192 w9 ho10 hb hg_ hnew_; clear hg_ hnew_; (first | rw [← Ny191.out] at ho10 | (simp only [Int.reduceToNat] at ho10; rw [← Ny191.out] at ho10)); have n0_ := Aside0.mk (Kd.V_elder' (by (with_reducible repeat (first | apply Kd.V_alloc | apply Kd.V_drewN | apply Kd.V_drew)); exact HO1.out) (Kd.N_base ho10) hb); have n1_ := Aside0.mk (Kd.V_elder' (by (with_reducible repeat (first | apply Kd.V_alloc | apply Kd.V_drewN | apply Kd.V_drew)); exact HO2.out) (Kd.N_base ho10) hb); have n2_ := Aside0.mk (Kd.N_lower ho10 (below_size (by repeat (first | (with_reducible first | exact HB.out | apply below_alloc | apply pw_below_drewN | apply below_drew1) | exact HB.out)))); have n3_ := Aside0.mk (below_step (by repeat (first | (with_reducible first | exact HB.out | apply below_alloc | apply pw_below_drewN | apply below_drew1) | exact HB.out)) hb); clear HO1; clear HO2; clear HB; clear HO190; have HO1 := n0_; have HO2 := n1_; have HO193 := n2_; have HB := n3_; clear n0_ n1_ n2_ n3_; clear hb ho10; obtain ⟨Ao11, co11, eo11⟩ := Kd.N_slice HO193.out; subst eo11) | ((with_reducible refine gate_callee (f := 81) rfl ?_); refine goesL_ (some 15) rfl rfl Tryd.func81 (by kernel_rfl) rfl #[.int .i64 a0, .int .i64 1, .slice Ao11 y191.length co11] rfl (by (try simp only [List.map_toArray, List.map_cons, List.map_nil]); first | done | rfl | (simp only [List.length_drop, List.length_take]; rfl)) ?_; (with_reducible refine (annalsref02_Hash.calls k a0 1 _ _ y191 t194 _ ?side1 ?side2 A6.out).mono ?_); (case side1 => repeat (first | exact (Kd.N_reads' HO193.out).2.2 | (with_reducible refine Kd.C_alloc ?_ _) | (with_reducible refine Kd.C_drewN ?_ _) | (with_reducible refine Kd.C_drew ?_))); (case side2 => exact (Kd.N_reads' HO193.out).2.1); rintro e w12 ⟨v195, rfl, ho0, hb⟩; refine ⟨_, rfl, ?_⟩; have n0_ := Aside0.mk (Kd.V_elder' (by (with_reducible repeat (first | apply Kd.V_alloc | apply Kd.V_drewN | apply Kd.V_drew)); exact HO1.out) (Kd.R_base ho0) hb); have n1_ := Aside0.mk (Kd.V_elder' (by (with_reducible repeat (first | apply Kd.V_alloc | apply Kd.V_drewN | apply Kd.V_drew)); exact HO2.out) (Kd.R_base ho0) hb); have n2_ := Aside0.mk (Kd.N_elder' (by (with_reducible repeat (first | apply Kd.N_alloc | apply Kd.N_drewN | apply Kd.N_drew)); exact HO193.out) (Kd.R_base ho0) hb); have n3_ := Aside0.mk (Kd.R_lower (Kd.R_newM (M := fun k_ => (w.heap.size ≤ k_)) ho0 (below_size (by repeat (first | (with_reducible first | exact HB.out | apply below_alloc | apply pw_below_drewN | apply below_drew1) | exact HB.out))) (fun k_ h_ => h_)) (below_size (by repeat (first | (with_reducible first | exact HB.out | apply below_alloc | apply pw_below_drewN | apply below_drew1) | exact HB.out)))); have n4_ := Aside0.mk (below_step (by repeat (first | (with_reducible first | exact HB.out | apply below_alloc | apply pw_below_drewN | apply below_drew1) | exact HB.out)) hb); clear HO1; clear HO2; clear HO193; clear HB; have HO1 := n0_; have HO2 := n1_; have HO193 := n2_; have HO196 := n3_; have HB := n4_; clear n0_ n1_ n2_ n3_ n4_; (try clear hb); (try clear hb2); (try clear hk); (try clear hi); (try clear ho0)))
  go_ret
  exact ⟨_, by first | rfl | (simp [errW_none, errW_some] <;> rfl) | (simp [*, errW_none, errW_some] <;> rfl), by (with_reducible repeat (first | apply Kd.R_alloc | apply Kd.R_drewN | apply Kd.R_drew)); exact Kd.R_mono HO196.out (fun _ hk => hk.1), by repeat (first | (with_reducible first | exact HB.out | apply below_alloc | apply pw_below_drewN | apply below_drew1) | exact HB.out)⟩
end Go.Proofs.YtdeneoknjeegbaaDoor.P
end
