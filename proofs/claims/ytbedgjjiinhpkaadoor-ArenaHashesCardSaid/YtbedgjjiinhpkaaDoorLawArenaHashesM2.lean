/- Lemmas of this claim, part 2. -/
import Derived.Test.YtbedgjjiinhpkaaDoorLawArenaHashesM1
import Derived.Test.YtbedgjjiinhpkaaDoorLawArenaHashesM0
import Derived.Lib.SlBytesConst
-- PureSha
set_option linter.unusedVariables false
set_option linter.unusedSimpArgs false
namespace Go.Proofs.YtbedgjjiinhpkaaDoor.P
open Go.RowKit Go.Proofs.YtbedgjjiinhpkaaDoorW.PrintWords Go.Proofs.YtbedgjjiinhpkaaDoorW.PrintLast Go.Proofs.YtbedgjjiinhpkaaDoorW.PrintMore

theorem wrap_u32 (n : Int) : IntKind.u32.wrap n = n % 4294967296 := IntKind.wrap_u32 n
def W32 (x : Int) : Prop := 0 ≤ x ∧ x < 4294967296
def B (x : Int) : BitVec 32 := BitVec.ofInt 32 x
theorem B_toNat (x : Int) : (B x).toNat = (x % 4294967296).toNat := by
  unfold B; rw [BitVec.toNat_ofInt]; rfl
theorem B_inj {x y : Int} (hx : W32 x) (hy : W32 y) (h : B x = B y) : x = y := by
  have := congrArg BitVec.toNat h
  rw [B_toNat, B_toNat] at this
  unfold W32 at hx hy; omega
theorem B_of (v : BitVec 32) : B ((v.toNat : Int) % 4294967296) = v := by
  apply BitVec.eq_of_toNat_eq
  rw [B_toNat]
  have := v.isLt
  omega
theorem bits_W32 (op : BinOp) (x y : Int) : W32 (Go.bits op .u32 x y) := by
  unfold Go.bits W32
  rw [wrap_u32]
  omega
theorem B_xor (x y : Int) : B (Go.bits .xor .u32 x y) = B x ^^^ B y := by
  unfold Go.bits; rw [wrap_u32]; exact B_of _
theorem B_and (x y : Int) : B (Go.bits .and .u32 x y) = B x &&& B y := by
  unfold Go.bits; rw [wrap_u32]; exact B_of _
theorem B_or (x y : Int) : B (Go.bits .or .u32 x y) = B x ||| B y := by
  unfold Go.bits; rw [wrap_u32]; exact B_of _
theorem B_max : B IntKind.u32.max = BitVec.allOnes 32 := by decide
theorem choice_eq (e f g : Int) : Go.bits .xor .u32 (Go.bits .and .u32 e (Go.bits .xor .u32 f g)) g = Go.bits .xor .u32 (Go.bits .and .u32 e f) (Go.bits .and .u32 (Go.bits .xor .u32 IntKind.u32.max e) g) := by
  apply B_inj (bits_W32 _ _ _) (bits_W32 _ _ _)
  simp only [B_xor, B_and, B_max]
  ext i hi
  simp only [BitVec.getElem_xor, BitVec.getElem_and, BitVec.getElem_allOnes]
  cases (B e)[i] <;> cases (B f)[i] <;> cases (B g)[i] <;> rfl
theorem most_eq (a b c : Int) : Go.bits .or .u32 (Go.bits .and .u32 a (Go.bits .or .u32 b c)) (Go.bits .and .u32 b c) = Go.bits .xor .u32 (Go.bits .xor .u32 (Go.bits .and .u32 a b) (Go.bits .and .u32 a c)) (Go.bits .and .u32 b c) := by
  apply B_inj (bits_W32 _ _ _) (bits_W32 _ _ _)
  simp only [B_xor, B_and, B_or]
  ext i hi
  simp only [BitVec.getElem_xor, BitVec.getElem_and, BitVec.getElem_or]
  cases (B a)[i] <;> cases (B b)[i] <;> cases (B c)[i] <;> rfl
theorem bits_or_comm (x y : Int) : Go.bits .or .u32 x y = Go.bits .or .u32 y x := by
  apply B_inj (bits_W32 _ _ _) (bits_W32 _ _ _)
  simp only [B_or]
  exact BitVec.or_comm _ _
theorem and31 (a : Int) (h0 : 0 ≤ a) (h1 : a < 32) : Go.bits .and .u64 (IntKind.u64.wrap a) 31 = a := by
  have e : IntKind.u64.wrap a = a := by rw [IntKind.wrap_u64]; omega
  rw [e]
  unfold Go.bits
  have ha : (BitVec.ofInt IntKind.u64.bits a &&& BitVec.ofInt IntKind.u64.bits 31).toNat = a.toNat := by
    have h7 : BitVec.ofInt IntKind.u64.bits 31 = BitVec.ofNat 64 31 := rfl
    rw [h7]
    have h1 : (BitVec.ofInt 64 a).toNat = (a % 18446744073709551616).toNat := by rw [BitVec.toNat_ofInt]; rfl
    show ((BitVec.ofInt 64 a) &&& BitVec.ofNat 64 31).toNat = _
    rw [BitVec.toNat_and, h1, BitVec.toNat_ofNat]
    have h2 := Nat.and_two_pow_sub_one_eq_mod (a % 18446744073709551616).toNat 5
    have h3 : (31 % 2 ^ 64 : Nat) = 2 ^ 5 - 1 := by decide
    rw [h3, h2]
    omega
  simp only [ha]
  rw [IntKind.wrap_u64]
  omega
theorem rot_eq (x a : Int) (h : 0 < a ∧ a < 32) : bits_RotateLeft32.f x (wrap64 (32 - a)) = some (Go.bits .or .u32 (shl .u32 x (32 - a)) (shr .u32 x a)) := by
  unfold bits_RotateLeft32.f
  have e : wrap64 (32 - a) = 32 - a := by unfold wrap64; omega
  have e2 : IntKind.u64.wrap (32 - (32 - a)) = a := by rw [IntKind.wrap_u64]; omega
  rw [e, and31 _ (by omega) (by omega), e2, if_pos (by omega), if_pos (by omega)]
theorem right_eq (x a : Int) (h : 0 < a ∧ a < 32) : (annalsref01_right.f x a).getD 0 = Go.bits .or .u32 (shl .u32 x (32 - a)) (shr .u32 x a) := by
  unfold annalsref01_right.f
  have e : wrap64 (32 - a) = 32 - a := by unfold wrap64; omega
  rw [e, if_pos (by omega), if_pos (by omega), bits_or_comm]
  rfl
theorem sigma_R (x a b c : Int) (ha : 0 < a ∧ a < 32) (hb : 0 < b ∧ b < 32) (hc : 0 < c ∧ c < 32) : (sha_sigma.f x a b c).getD 0 = Go.bits .xor .u32 (Go.bits .xor .u32 ((annalsref01_right.f x a).getD 0) ((annalsref01_right.f x b).getD 0)) ((annalsref01_right.f x c).getD 0) := by
  unfold sha_sigma.f
  rw [rot_eq x a ha, rot_eq x b hb, rot_eq x c hc, right_eq x a ha, right_eq x b hb, right_eq x c hc]
  rfl
theorem gamma_R (x a b c : Int) (ha : 0 < a ∧ a < 32) (hb : 0 < b ∧ b < 32) (hc : 0 ≤ c) : (sha_gamma.f x a b c).getD 0 = Go.bits .xor .u32 (Go.bits .xor .u32 ((annalsref01_right.f x a).getD 0) ((annalsref01_right.f x b).getD 0)) (shr .u32 x c) := by
  unfold sha_gamma.f
  rw [rot_eq x a ha, rot_eq x b hb, right_eq x a ha, right_eq x b hb]
  simp only [Option.bind_some]
  rw [if_pos hc]
  rfl
theorem gamma_R10 (x : Int) : (sha_gamma.f x 17 19 10).getD 0 = Go.bits .xor .u32 (Go.bits .xor .u32 ((annalsref01_right.f x 17).getD 0) ((annalsref01_right.f x 19).getD 0)) (x / 1024) := gamma_R x 17 19 10 (by omega) (by omega) (by omega)
theorem gamma_R3 (x : Int) : (sha_gamma.f x 7 18 3).getD 0 = Go.bits .xor .u32 (Go.bits .xor .u32 ((annalsref01_right.f x 7).getD 0) ((annalsref01_right.f x 18).getD 0)) (x / 8) := gamma_R x 7 18 3 (by omega) (by omega) (by omega)
def BytesOk (bs : List Int) : Prop := ∀ x ∈ bs, 0 ≤ x ∧ x ≤ 255
theorem rword_eq (ts : List Int) (h : 4 ≤ ts.length) (hb : BytesOk ts) : rword ts = ((ts.getD 0 0 * 256 + ts.getD 1 0) * 256 + ts.getD 2 0) * 256 + ts.getD 3 0 := by
  unfold rword annalsref01_word.f
  rw [if_pos (by omega), if_pos (by omega), if_pos (by omega), if_pos (by omega), Option.getD_some]
  have g (j : Nat) : 0 ≤ ts.getD j 0 ∧ ts.getD j 0 ≤ 255 := by
    rw [List.getD_eq_getElem?_getD]
    by_cases hj : j < ts.length
    · rw [List.getElem?_eq_getElem hj]; exact hb _ (List.getElem_mem hj)
    · rw [List.getElem?_eq_none (by omega)]; simp
  have g0 := g 0
  have g1 := g 1
  have g2 := g 2
  have g3 := g 3
  unfold rd
  simp only [Int.toNat_zero, Int.toNat_one, show (2 : Int).toNat = 2 from rfl, show (3 : Int).toNat = 3 from rfl]
  omega
theorem round_eq (s : Sums) (add wi : Int) : s.round add wi = s.rround ((add + wi) % 4294967296) := by
  unfold Sums.round Sums.rround
  dsimp only
  rw [sigma_R s.e 6 11 25 (by omega) (by omega) (by omega), sigma_R s.a 2 13 22 (by omega) (by omega) (by omega), choice_eq, most_eq]
  congr 1 <;> omega
theorem or_bytes (x b : Int) (h0 : 0 ≤ x) (h1 : x < 16777216) (b0 : 0 ≤ b) (b1 : b ≤ 255) : Go.bits .or .u32 (x * 256 % 4294967296) (b % 4294967296) = x * 256 + b := by
  have e1 : x * 256 % 4294967296 = x * 256 := by omega
  have e2 : b % 4294967296 = b := by omega
  rw [e1, e2]
  unfold Go.bits
  rw [wrap_u32]
  obtain ⟨n, rfl⟩ : ∃ n : Nat, x = n := ⟨x.toNat, by omega⟩
  obtain ⟨m, rfl⟩ : ∃ n : Nat, b = n := ⟨b.toNat, by omega⟩
  have hn : (BitVec.ofInt IntKind.u32.bits ((n : Int) * 256)).toNat = n * 2 ^ 8 := by
    show (BitVec.ofInt 32 ((n : Int) * 256)).toNat = _
    rw [BitVec.toNat_ofInt]
    omega
  have hm : (BitVec.ofInt IntKind.u32.bits (m : Int)).toNat = m := by
    show (BitVec.ofInt 32 (m : Int)).toNat = _
    rw [BitVec.toNat_ofInt]
    omega
  simp only [BitVec.toNat_or, hn, hm]
  have h3 : n * 2 ^ 8 ||| m = n * 2 ^ 8 + m := by
    rw [Nat.mul_comm]
    exact (Nat.two_pow_add_eq_or_of_lt (by omega) n).symm
  rw [h3]
  omega
theorem getD_set_self (xs : List Int) (i : Nat) (x : Int) (h : i < xs.length) : (xs.set i x).getD i 0 = x := by
  rw [List.getD_eq_getElem?_getD, List.getElem?_set_self h]; rfl
theorem getD_set_ne (xs : List Int) (i j : Nat) (x : Int) (h : i ≠ j) : (xs.set i x).getD j 0 = xs.getD j 0 := by
  rw [List.getD_eq_getElem?_getD, List.getElem?_set_ne h, ← List.getD_eq_getElem?_getD]
theorem rws_late (ts : List Int) (p m j : Nat) (h : m ≤ j) : (rws ts p m).getD j 0 = 0 := by
  induction m with
  | zero =>
    show (List.replicate 64 (0 : Int)).getD j 0 = 0
    rw [List.getD_eq_getElem?_getD, List.getElem?_replicate]
    split <;> rfl
  | succ m ih =>
    simp only [rws]
    rw [getD_set_ne _ _ _ _ (by omega)]
    exact ih (by omega)
theorem rws_keep (ts : List Int) (p m j : Nat) (h : j < m) : (rws ts p m).getD j 0 = (rws ts p (j + 1)).getD j 0 := by
  induction m with
  | zero => omega
  | succ m ih =>
    by_cases hj : j = m
    · rw [hj]
    · rw [← ih (by omega)]
      simp only [rws]
      rw [getD_set_ne _ _ _ _ (by omega)]
theorem BytesOk.get {bs : List Int} (h : BytesOk bs) (j : Nat) : 0 ≤ bs.getD j 0 ∧ bs.getD j 0 ≤ 255 := by
  rw [List.getD_eq_getElem?_getD]
  by_cases hj : j < bs.length
  · rw [List.getElem?_eq_getElem hj]; exact h _ (List.getElem_mem hj)
  · rw [List.getElem?_eq_none (by omega)]; simp
theorem BytesOk.drop {bs : List Int} (h : BytesOk bs) (j : Nat) : BytesOk (bs.drop j) := fun x hx => h x (List.mem_of_mem_drop hx)
theorem getD_drop (xs : List Int) (p j : Nat) : (xs.drop p).getD j 0 = xs.getD (p + j) 0 := by
  rw [List.getD_eq_getElem?_getD, List.getElem?_drop, ← List.getD_eq_getElem?_getD]
theorem sched1_rws (ts : List Int) (p : Nat) (hl : p + 64 ≤ ts.length) (hb : BytesOk ts) (m : Nat) (hm : m ≤ 16) : sched1 (ts.drop p) (4 * m) = rws ts p m := by
  induction m with
  | zero => rfl
  | succ m ih =>
    have ih := ih (by omega)
    obtain ⟨X, hX⟩ : ∃ X, X = rws ts p m := ⟨_, rfl⟩
    have hXl : X.length = 64 := by rw [hX]; exact rws_length _ _ _
    have hX0 : X.getD m 0 = 0 := by rw [hX]; exact rws_late _ _ _ _ (Nat.le_refl _)
    rw [← hX] at ih
    have r (j : Nat) : 0 ≤ (ts.drop p).getD j 0 ∧ (ts.drop p).getD j 0 ≤ 255 := (hb.drop p).get j
    have step (k : Nat) (Y : List Int) (y : Int) (hk : k / 4 = m) (hY : sched1 (ts.drop p) k = Y.set m y) (hYl : Y.length = 64) (h0 : 0 ≤ y) (h1 : y < 16777216) :
        sched1 (ts.drop p) (k + 1) = Y.set m (y * 256 + (ts.drop p).getD k 0) := by
      simp only [sched1]
      rw [hk, hY, getD_set_self _ _ _ (by omega)]
      unfold rd
      rw [Int.toNat_natCast, or_bytes _ _ h0 h1 (r k).1 (r k).2, List.set_set]
    have r0 := r (4 * m)
    have r1 := r (4 * m + 1)
    have r2 := r (4 * m + 2)
    have r3 := r (4 * m + 3)
    have s0 : sched1 (ts.drop p) (4 * m) = X.set m 0 := by
      rw [ih]
      apply List.ext_getElem?
      intro j
      by_cases hj : m = j
      · subst hj
        rw [List.getElem?_set_self (by omega), List.getElem?_eq_getElem (by omega)]
        rw [List.getD_eq_getElem?_getD, List.getElem?_eq_getElem (by omega)] at hX0
        exact congrArg some hX0
      · rw [List.getElem?_set_ne hj]
    have s1 := step (4 * m) X 0 (by omega) s0 hXl (by omega) (by omega)
    have s2 := step (4 * m + 1) X _ (by omega) s1 hXl (by omega) (by omega)
    have s3 := step (4 * m + 2) X _ (by omega) s2 hXl (by omega) (by omega)
    have s4 := step (4 * m + 3) X _ (by omega) s3 hXl (by omega) (by omega)
    show sched1 (ts.drop p) (4 * m + 4) = _
    rw [s4]
    simp only [rws]
    rw [if_pos (by omega), ← hX, rword_eq _ (by rw [List.length_drop]; omega) (hb.drop _)]
    simp only [getD_drop]
    rw [show p + 4 * m + 0 = p + 4 * m from rfl, show p + (4 * m + 1) = p + 4 * m + 1 from rfl, show p + (4 * m + 2) = p + 4 * m + 2 from rfl, show p + (4 * m + 3) = p + 4 * m + 3 from rfl]
    simp only [Int.zero_mul, Int.zero_add]
theorem sched2At_eq (ws : List Int) (i : Nat) : sched2At ws i = rnext ws i := by
  unfold sched2At rnext
  simp only [gamma_R10, gamma_R3]
  omega
theorem sched2_rws (ts : List Int) (p k : Nat) : sched2 (rws ts p 16) k = rws ts p (16 + k) := by
  induction k with
  | zero => rfl
  | succ k ih =>
    simp only [sched2]
    rw [ih, show 16 + (k + 1) = (16 + k) + 1 from rfl]
    simp only [rws]
    rw [if_neg (by omega), Nat.add_comm 16 k, sched2At_eq]
theorem schedule_rws (ts : List Int) (p : Nat) (hl : p + 64 ≤ ts.length) (hb : BytesOk ts) : schedule (ts.drop p) = rws ts p 64 := by
  unfold schedule
  rw [show 64 = 4 * 16 from rfl, sched1_rws ts p hl hb 16 (by omega), sched2_rws]
theorem rounds_eq (ts : List Int) (p : Nat) (h : Sums) (i : Nat) (hi : i ≤ 64) : Sums.rounds (rws ts p 64) h i = rrounds ts p h i := by
  induction i with
  | zero => rfl
  | succ i ih =>
    simp only [Sums.rounds, rrounds]
    rw [ih (by omega), round_eq, rws_keep ts p 64 i (by omega)]
theorem addW_get (xs ys : List Int) (k : Nat) (hk : k ≤ xs.length) (j : Nat) : (addW xs ys k).getD j 0 = if j < k then (xs.getD j 0 + ys.getD j 0) % 4294967296 else xs.getD j 0 := by
  induction k with
  | zero => simp [addW]
  | succ k ih =>
    have ih := ih (by omega)
    simp only [addW]
    by_cases hj : k = j
    · subst hj
      rw [getD_set_self _ _ _ (by rw [addW_length]; omega), ih, if_neg (by omega), if_pos (by omega)]
    · rw [getD_set_ne _ _ _ _ hj, ih]
      by_cases h : j < k
      · rw [if_pos h, if_pos (by omega)]
      · rw [if_neg h, if_neg (by omega)]
theorem ext_getD (xs ys : List Int) (hl : xs.length = ys.length) (h : ∀ j, j < xs.length → xs.getD j 0 = ys.getD j 0) : xs = ys := by
  apply List.ext_getElem hl
  intro j h1 h2
  have := h j h1
  rwa [List.getD_eq_getElem?_getD, List.getD_eq_getElem?_getD, List.getElem?_eq_getElem h1, List.getElem?_eq_getElem h2] at this
theorem addW_comm (xs ys : List Int) (hx : xs.length = 8) (hy : ys.length = 8) : addW xs ys 8 = addW ys xs 8 := by
  apply ext_getD
  · rw [addW_length, addW_length, hx, hy]
  · intro j hj
    rw [addW_length] at hj
    rw [addW_get _ _ _ (by omega), addW_get _ _ _ (by omega), if_pos (by omega), if_pos (by omega), Int.add_comm]
theorem take_rws (ts : List Int) (p : Nat) (s : Sums) (hl : p + 64 ≤ ts.length) (hb : BytesOk ts) : s.take (ts.drop p) = addW s.list (rrounds ts p s 64).list 8 := by
  unfold Sums.take
  rw [schedule_rws ts p hl hb, rounds_eq _ _ _ _ (Nat.le_refl _)]
  exact addW_comm _ _ rfl rfl
theorem sched1_congr (a b : List Int) (k : Nat) (h : ∀ j, j < k → a.getD j 0 = b.getD j 0) : sched1 a k = sched1 b k := by
  induction k with
  | zero => rfl
  | succ k ih =>
    simp only [sched1]
    unfold rd
    rw [ih (fun j hj => h j (by omega)), Int.toNat_natCast, h k (by omega)]
theorem take_congr (s : Sums) (a b : List Int) (h : ∀ j, j < 64 → a.getD j 0 = b.getD j 0) : s.take a = s.take b := by
  unfold Sums.take schedule
  rw [sched1_congr a b 64 h]
theorem blocks_rsums (ts bs : List Int) (p m : Nat) (S : Sums) (hS : S = rsums ts p) (hl : 64 * (p + m) ≤ ts.length) (hb : BytesOk ts)
    (hg : ∀ i j, i < m → j < 64 → (bs.drop (64 * i)).getD j 0 = ts.getD (64 * (p + i) + j) 0) : Sums.blocks S bs m = rsums ts (p + m) := by
  induction m with
  | zero => exact hS
  | succ m ih =>
    have ih := ih (by omega) (fun i j hi hj => hg i j (by omega) hj)
    simp only [Sums.blocks]
    rw [ih, show p + (m + 1) = (p + m) + 1 from rfl]
    simp only [rsums]
    rw [← take_rws ts (64 * (p + m)) (rsums ts (p + m)) (by omega) hb]
    refine congrArg Sums.of (take_congr _ _ _ fun j hj => ?_)
    rw [hg m j (by omega) hj, getD_drop]
theorem tailLen_length (m k : Nat) : ∀ (x i : Nat) (ys : List Int), (tailLen m k x i ys).length = ys.length := by
  induction k with
  | zero => intro x i ys; rfl
  | succ k ih =>
    intro x i ys
    simp only [tailLen]
    split
    · rw [ih, List.length_set]
    · rfl
theorem tailLen_get (m k : Nat) : ∀ (x i : Nat) (ys : List Int) (j : Nat), 1 ≤ i → m ≤ ys.length → i + k ≤ m + 1 → (∀ j, m < j + i + k → j + i ≤ m → ys.getD j 0 = 0) →
    (tailLen m k x i ys).getD j 0 = if m < j + i + k ∧ j + i ≤ m then ((x / 256 ^ (m - i - j) % 256 : Nat) : Int) else ys.getD j 0 := by
  induction k with
  | zero =>
    intro x i ys j _ _ _ _
    rw [if_neg (by omega)]
    rfl
  | succ k ih =>
    intro x i ys j hi hm hk hz
    simp only [tailLen]
    by_cases hx : 0 < x
    · rw [if_pos hx, ih (x / 256) (i + 1) (ys.set (m - i) ((x % 256 : Nat) : Int)) j (by omega) (by rw [List.length_set]; omega) (by omega) (fun j h1 h2 => by rw [getD_set_ne _ _ _ _ (by omega)]; exact hz j (by omega) (by omega))]
      by_cases h1 : m < j + (i + 1) + k ∧ j + (i + 1) ≤ m
      · rw [if_pos h1, if_pos (by omega)]
        congr 2
        rw [Nat.div_div_eq_div_mul]
        congr 1
        rw [show m - i - j = (m - (i + 1) - j) + 1 from by omega, Nat.pow_succ, Nat.mul_comm]
      · rw [if_neg h1]
        by_cases h2 : j + i = m
        · rw [if_pos (by omega), show m - i = j from by omega, getD_set_self _ _ _ (by omega), show j - j = 0 from by omega, Nat.pow_zero, Nat.div_one]
        · rw [if_neg (by omega), getD_set_ne _ _ _ _ (by omega)]
    · rw [if_neg hx]
      obtain rfl : x = 0 := by omega
      by_cases h1 : m < j + i + (k + 1) ∧ j + i ≤ m
      · rw [if_pos h1, hz j h1.1 h1.2, Nat.zero_div]
        rfl
      · rw [if_neg h1]
theorem rlen_get (n k j : Nat) (h : j < k) : (rlen n k).getD j 0 = (8 * (n : Int)) / 2 ^ (56 - 8 * (j : Int)).toNat % 256 := by
  induction k with
  | zero => omega
  | succ k ih =>
    simp only [rlen]
    rw [List.getD_eq_getElem?_getD]
    by_cases hj : j < k
    · rw [List.getElem?_append_left (by rw [rlen_length]; exact hj), ← List.getD_eq_getElem?_getD]
      exact ih hj
    · obtain rfl : j = k := by omega
      rw [List.getElem?_append_right (by rw [rlen_length]; omega), rlen_length, Nat.sub_self]
      rfl
theorem tailBlocks_r (n : Nat) : n / 64 + tailBlocks n = rblocks n := by
  unfold tailBlocks rblocks
  split <;> omega
theorem getD_append_left (xs ys : List Int) (j : Nat) (h : j < xs.length) : (xs ++ ys).getD j 0 = xs.getD j 0 := by
  rw [List.getD_eq_getElem?_getD, List.getElem?_append_left h, ← List.getD_eq_getElem?_getD]
theorem getD_append_right (xs ys : List Int) (j : Nat) (h : xs.length ≤ j) : (xs ++ ys).getD j 0 = ys.getD (j - xs.length) 0 := by
  rw [List.getD_eq_getElem?_getD, List.getElem?_append_right h, ← List.getD_eq_getElem?_getD]
theorem getD_replicate0 (n j : Nat) : (List.replicate n (0 : Int)).getD j 0 = 0 := by
  rw [List.getD_eq_getElem?_getD, List.getElem?_replicate]
  split <;> rfl
theorem rpad_get (bs : List Int) (k j : Nat) : (rpad bs k).getD j 0 = if j < bs.length then bs.getD j 0 else if j = bs.length then 128 else 0 := by
  unfold rpad
  by_cases h : j < bs.length
  · rw [if_pos h, getD_append_left _ _ _ (by simp; omega), getD_append_left _ _ _ h]
  · rw [if_neg h]
    by_cases h2 : j = bs.length
    · rw [if_pos h2, getD_append_left _ _ _ (by simp; omega), getD_append_right _ _ _ (by omega), h2, Nat.sub_self]
      rfl
    · rw [if_neg h2, getD_append_right _ _ _ (by simp; omega), getD_replicate0]
theorem tail0_get (rest : List Int) (hr : rest.length < 128) (j : Nat) : (tail0 rest).getD j 0 = if j < rest.length then rest.getD j 0 else if j = rest.length then 128 else 0 := by
  unfold tail0
  by_cases h2 : j = rest.length
  · rw [if_neg (by omega), if_pos h2, h2, getD_set_self _ _ _ (by simp; omega)]
  · rw [getD_set_ne _ _ _ _ (by omega)]
    by_cases h : j < rest.length
    · rw [if_pos h, getD_append_left _ _ _ h]
    · rw [if_neg h, if_neg h2, getD_append_right _ _ _ (by omega), getD_replicate0]
theorem tail0_length (rest : List Int) (hr : rest.length < 128) : (tail0 rest).length = 128 := by
  unfold tail0
  simp
  omega
theorem tailOf_rtext (bs : List Int) : (tailOf bs).take (tailSize bs.length) = (rtext bs).drop (64 * (bs.length / 64)) := by
  obtain ⟨n, hn⟩ : ∃ n, n = bs.length := ⟨_, rfl⟩
  have hrl : (bs.drop (64 * (bs.length / 64))).length = n % 64 := by rw [List.length_drop]; omega
  have ht : n / 64 + tailBlocks n = rblocks n := tailBlocks_r n
  have hz := rzeros_eq n
  have hts : tailSize n = 64 * tailBlocks n := rfl
  have htb : tailBlocks n = 1 ∨ tailBlocks n = 2 := by unfold tailBlocks; split <;> omega
  have htl : (tailOf bs).length = 128 := by unfold tailOf; rw [tailLen_length, tail0_length _ (by omega)]
  apply ext_getD
  · rw [List.length_take, htl, List.length_drop, rtext_length, ← hn]
    omega
  · intro j hj
    rw [List.length_take, htl, ← hn] at hj
    rw [getD_drop]
    have h1 : ((tailOf bs).take (tailSize bs.length)).getD j 0 = (tailOf bs).getD j 0 := by
      rw [List.getD_eq_getElem?_getD, List.getElem?_take, if_pos (by rw [← hn]; omega), ← List.getD_eq_getElem?_getD]
    rw [h1]
    unfold tailOf
    rw [tailLen_get _ 8 _ 1 _ j (by omega) (by rw [tail0_length _ (by omega), ← hn]; omega) (by rw [← hn]; omega) (fun j h1 h2 => by
      rw [tail0_get _ (by omega), hrl, if_neg (by rw [← hn] at *; omega), if_neg (by rw [← hn] at *; omega)])]
    unfold rtext
    rw [← hn] at hrl
    rw [← hn]
    by_cases hw : tailSize n < j + 1 + 8 ∧ j + 1 ≤ tailSize n
    · rw [if_pos hw, getD_append_right _ _ _ (by rw [rpad_length, ← hn]; omega), rpad_length, ← hn]
      obtain ⟨k, hk⟩ : ∃ k, k = 64 * (n / 64) + j - (n + 1 + rzeros n) := ⟨_, rfl⟩
      rw [← hk, rlen_get _ _ _ (by omega), show tailSize n - 1 - j = 7 - k from by omega]
      have hk8 : k < 8 := by omega
      rcases (show k = 0 ∨ k = 1 ∨ k = 2 ∨ k = 3 ∨ k = 4 ∨ k = 5 ∨ k = 6 ∨ k = 7 by omega) with h | h | h | h | h | h | h | h <;> rw [h] <;> simp <;> omega
    · rw [if_neg hw, tail0_get _ (by omega), hrl, getD_append_left _ _ _ (by rw [rpad_length, ← hn]; omega), rpad_get, ← hn]
      by_cases h2 : j < n % 64
      · rw [if_pos h2, if_pos (by omega), getD_drop]
      · rw [if_neg h2, if_neg (show ¬ 64 * (n / 64) + j < n by omega)]
        by_cases h3 : j = n % 64
        · rw [if_pos h3, if_pos (by omega)]
        · rw [if_neg h3, if_neg (by omega)]
theorem rtext_ok (bs : List Int) (hb : BytesOk bs) : BytesOk (rtext bs) := by
  intro x hx
  unfold rtext rpad at hx
  simp only [List.mem_append, List.mem_singleton, List.mem_replicate] at hx
  rcases hx with ((hx | rfl) | ⟨_, rfl⟩) | hx
  · exact hb x hx
  · omega
  · omega
  · have h (k : Nat) : ∀ x ∈ rlen bs.length k, 0 ≤ x ∧ x ≤ 255 := by
      induction k with
      | zero => intro x hx; cases hx
      | succ k ih =>
        intro x hx
        simp only [rlen, List.mem_append, List.mem_singleton] at hx
        rcases hx with hx | rfl
        · exact ih x hx
        · omega
    exact h 8 x hx
theorem out_eq (s : Sums) : outB s.list 32 = rout s.list 8 := by
  simp [outB, rout, wordByte, Sums.list]
theorem sum_eq (bs : List Int) (hb : BytesOk bs) : shaSum bs = refSum bs := by
  unfold shaSum refSum
  rw [out_eq]
  congr 2
  have ht := tailBlocks_r bs.length
  have hz := rzeros_eq bs.length
  have hl := rtext_length bs
  have h1 : Sums.blocks Sums.first bs (bs.length / 64) = rsums (rtext bs) (0 + bs.length / 64) := by
    refine blocks_rsums (rtext bs) bs 0 (bs.length / 64) Sums.first rfl (by rw [hl]; omega) (rtext_ok bs hb) ?_
    intro i j hi hj
    rw [getD_drop, Nat.zero_add]
    unfold rtext
    rw [getD_append_left _ _ _ (by rw [rpad_length]; omega), rpad_get, if_pos (by omega)]
  rw [h1, Nat.zero_add, tailOf_rtext, ← ht]
  refine blocks_rsums (rtext bs) _ _ _ _ rfl (by rw [hl]; omega) (rtext_ok bs hb) ?_
  intro i j hi hj
  rw [getD_drop, getD_drop]
  congr 1
  omega

end Go.Proofs.YtbedgjjiinhpkaaDoor.P

-- TextD
set_option linter.unusedVariables false
set_option linter.unusedSimpArgs false
namespace Go.Proofs.YtbedgjjiinhpkaaDoor.P
open Go.RowKit Go.Proofs.YtbedgjjiinhpkaaDoorW.PrintWords Go.Proofs.YtbedgjjiinhpkaaDoorW.PrintLast Go.Proofs.YtbedgjjiinhpkaaDoorW.PrintMore

/-- How many bytes n bits take. -/
def bitBytes (n : Nat) : Nat := (n - 1) / 8 + 1
/-- A byte cut to so many bits. -/
def cutByte (x : Int) (over : Int) : Int := Go.bits .and .u8 x (255 * 2 ^ (8 - over).toNat % 256)
def firstBits (l : List Int) (n : Nat) : List Int :=
  if n % 8 = 0 then l.take (bitBytes n) else (l.take (bitBytes n)).set (bitBytes n - 1) (cutByte ((l.take (bitBytes n)).getD (bitBytes n - 1) 0) ((n % 8 : Nat) : Int))
def firstB (l : List Int) (a : Int) : List Int := if 8 * (l.length : Int) ≤ a then l else if a < 1 then [] else firstBits l a.toNat
def bits_First.f (l0 : List Int) (a1 : Int) : Option (List Int) := if l0.length < 140737488355328 then some (firstB l0 a1) else none

theorem and7 (a : Int) : Go.bits .and .i64 a 7 = a % 8 := by
  unfold Go.bits
  have h7 : BitVec.ofInt IntKind.i64.bits 7 = BitVec.ofNat 64 7 := rfl
  have ha : (BitVec.ofInt IntKind.i64.bits a &&& BitVec.ofInt IntKind.i64.bits 7).toNat = (a % 8).toNat := by
    rw [h7]
    have h1 : (BitVec.ofInt 64 a).toNat = (a % 18446744073709551616).toNat := by rw [BitVec.toNat_ofInt]; rfl
    show ((BitVec.ofInt 64 a) &&& BitVec.ofNat 64 7).toNat = _
    rw [BitVec.toNat_and, h1, BitVec.toNat_ofNat]
    have h2 := Nat.and_two_pow_sub_one_eq_mod (a % 18446744073709551616).toNat 3
    have h3 : (7 % 2 ^ 64 : Nat) = 2 ^ 3 - 1 := by decide
    rw [h3, h2]
    omega
  simp only [ha]
  rw [IntKind.wrap_i64]
  omega

set_option maxHeartbeats 4000000 in
set_option maxRecDepth 100000 in
theorem bits_First.calls (A0 : Option Addr) (c0 : Nat) (l0 : List Int) (a1 : Int) (r : List Int) (w : World) (hr0 : Kd.C (Kd.int .u8) w A0 l0.length l0) (hc0 : l0.length ≤ c0) (h : bits_First.f l0 a1 = some r) :
    Calls Tryd.prog 87 #[.slice A0 l0.length c0, .int .i64 a1] w fun e w' => ∃ v0_ : Value, e = .returned (v0_) ∧ Kd.R (Kd.int .u8) 5 w' w.heap.size (fun _ => True) v0_ r ∧ Below w.heap.size w w' := by
  unfold bits_First.f at h
  split at h
  case isFalse => cases h
  case isTrue hlb =>
  obtain rfl := Option.some.inj h
  have HR := Aside0.mk hr0
  have HC := Aside0.mk hc0
  have hl2 : (l0.length : Int) < 140737488355328 := by omega
  have HL := Aside0.mk hlb
  unfold firstB
  by_cases hge : 8 * (l0.length : Int) ≤ a1
  · rw [if_pos hge]
    have hd : decide (8 * (l0.length : Int) ≤ a1) = true := decide_eq_true hge
    have HH := Aside0.mk (show slices_Clone_byte_byte.f l0 = some l0 from if_pos hlb)
    clear h hr0 hc0 hge hlb
    go_enter Tryd.func87, Tryd.ntmps87
    go_wp2_with fail
    refine (slices_Clone_byte_byte.calls A0 c0 l0 l0 _ HR.out HC.out HH.out).mono ?_
    rintro e1 w1 ⟨v, rfl, hR, hB⟩
    have HR1 := Aside0.mk hR
    have HB1 := Aside0.mk hB
    clear hR hB
    go_wp2_with fail
    go_ret
    exact ⟨_, rfl, HR1.out, HB1.out⟩
  · rw [if_neg hge]
    have hd : decide (8 * (l0.length : Int) ≤ a1) = false := decide_eq_false hge
    by_cases h1 : a1 < 1
    · rw [if_pos h1]
      have hd1 : decide (a1 < 1) = true := decide_eq_true h1
      clear h hr0 hc0 hge h1 hlb
      go_enter Tryd.func87, Tryd.ntmps87
      go_wp2_with fail
      go_ret
      exact ⟨_, rfl, Kd.R_nil _ _ _ _ _, Below.refl _ _⟩
    · rw [if_neg h1]
      have hd1 : decide (a1 < 1) = false := decide_eq_false h1
      obtain ⟨m, hm⟩ : ∃ m, m = bitBytes a1.toNat := ⟨_, rfl⟩
      have hm1 : (a1 - 1) / 8 + 1 = (m : Int) := by rw [hm]; unfold bitBytes; omega
      have hml : m ≤ l0.length := by omega
      have hm0 : 0 < m := by omega
      have ha1 : 1 ≤ a1 := by omega
      have HA1 := Aside0.mk ha1
      have ha2 : a1 ≤ 1125899906842624 := by omega
      have hmi : (m : Int) ≤ 140737488355328 := by omega
      have hmk := print_make (P := Tryd.prog) 33 5 .u8 1 Tryd.underlying33 info5 (by decide) m (by omega)
      obtain ⟨W1, hW1⟩ : ∃ W1, W1 = w.alloc (.cells (madeCells #[.int .u8 0] m) 5) := ⟨_, rfl⟩
      have hz : (madeCells #[Value.int .u8 0] m) = (List.replicate m (Value.int .u8 0)).toArray := by
        apply Array.ext'
        have := own_made w w.heap.size 5 .u8 m (Nat.le_refl _) (by omega)
        apply List.ext_getElem
        · simp [size_madeCells]
        · intro i h1 h2
          simp [madeCells, Nat.mod_one]
      have HTAIL : W1.heap[w.heap.size]? = some (.cells (List.replicate m (Value.int .u8 0)).toArray 5 (0, 0)) := by rw [hW1, hz]; exact heap_alloc_new w _
      have hBW : Below w.heap.size w W1 := by rw [hW1]; exact below_alloc (Below.refl _ _) _
      have hcs := copy_src (Kd.C_take (Kd.C_below hr0 hBW) hml) w.heap.size
      have htl : ((l0.take m).map (Value.int .u8)).length = m := by rw [List.length_map, List.length_take]; omega
      have HW1 := Aside0.mk hW1
      have HM := Aside0.mk hm
      have HML := Aside0.mk hml
      have HTL := Aside0.mk htl
      have HBW := Aside0.mk hBW
      have HT := Aside0.mk HTAIL
      have HCS := Aside0.mk hcs
      have H1C := Aside0.mk (show ∀ v ∈ (l0.take m).map (Value.int .u8), v.oneCell' = true from fun v hv => by obtain ⟨x, _, rfl⟩ := List.mem_map.1 hv; rfl)
      clear h hr0 hc0 hge h1 hlb hm hml htl hBW HTAIL hcs hz hW1
      obtain ⟨ov, hov⟩ : ∃ ov, ov = a1 % 8 := ⟨_, rfl⟩
      have hand := and7 a1
      rw [← hov] at hand
      have ov0 : 0 ≤ ov := by omega
      have ov8 : ov < 8 := by omega
      have HOV := Aside0.mk hov
      clear hov
      by_cases hz : 0 < ov
      · have hdv : decide (0 < ov) = true := decide_eq_true hz
        have HZ := Aside0.mk hz
        clear hz
        go_enter Tryd.func87, Tryd.ntmps87
        go_wp2_with (first | ((with_reducible refine gate_builtin (b := .copy) (xs := #[.tmp 21, .tmp 22]) rfl ?_); rw [← HW1.out]; go_must (refine wpList_copy_splice rfl (.tmp 21) (.tmp 22) 33 33 rfl 5 Tryd.underlying33 (by kernel_rfl) (some ⟨w.heap.size, 0, none⟩) A0 m m l0.length c0 rfl rfl w.heap.size 0 (List.replicate m (.int .u8 0)) 5 HT.out ((l0.take m).map (Value.int .u8)) (HTL.out.trans (Nat.min_eq_right HML.out).symm) HCS.out (by rw [HTL.out]; simp) H1C.out w.heap.size _ HBW.out (Nat.le_refl _) ?_; intro w2 HG2 hB2; rw [HTL.out]; have HTB := Aside0.mk (IsBytes.of_splice HG2.out); have HB2 := Aside0.mk hB2; clear HG2 hB2 hm1 hmk ha1 ha2 hl2 hd hd1)))
        obtain ⟨xs, hxs⟩ : ∃ xs, xs = l0.take m := ⟨_, rfl⟩
        have hxl : xs.length = m := by have := HML.out; rw [hxs, List.length_take]; omega
        have hTB : IsBytes w2 w.heap.size 5 xs := by have := HTB.out; rw [← hxs, hxl, Nat.sub_self, List.replicate_zero, List.append_nil] at this; exact this
        have HTX := Aside0.mk hTB
        have HXS := Aside0.mk hxs
        obtain ⟨g, hg⟩ : ∃ g, g = w.heap.size := ⟨_, rfl⟩
        rw [← hg] at HTX
        rw [← hg]
        have HG := Aside0.mk hg
        clear hTB hxs hg HTB
        refine still_tail_at 11 (by kernel_rfl) (by kernel_rfl) (fun W hW => ?_)
        replace HTX : Aside0 (IsBytes W g 5 xs) := ⟨by rw [hW]; exact HTX.out⟩
        replace HB2 : Aside0 (Below w.heap.size w W) := ⟨by rw [hW]; exact below_drew1 HB2.out⟩
        clear hW
        obtain ⟨j, hj⟩ : ∃ j, j = m - 1 := ⟨_, rfl⟩
        have hjm : (m : Int) - 1 = (j : Int) := by omega
        have wj : IntKind.i64.wrap (j : Int) = (j : Int) := IntWalk.i64_in _ ⟨by omega, by omega⟩
        have qj : (j : Int) < (m : Int) := by omega
        have qj2 : j < m := by omega
        have pj : 0 ≤ (j : Int) := by omega
        have hc := HTX.out.cell j (by omega)
        have hf := HTX.out.frozen j
        obtain ⟨x, hx⟩ : ∃ x, x = xs.getD j 0 := ⟨_, rfl⟩
        rw [← hx] at hc
        obtain ⟨s, hs⟩ : ∃ s, s = 8 - ov := ⟨_, rfl⟩
        have hs2 : 8 - ov = s := hs.symm
        have ws : IntKind.i64.wrap s = s := IntWalk.i64_in _ ⟨by omega, by omega⟩
        have s0 : 0 ≤ s := by omega
        have s8 : s ≤ 8 := by omega
        have HS := Aside0.mk hs
        have HX := Aside0.mk hx
        have HJ := Aside0.mk hj
        have HXL := Aside0.mk hxl
        clear hj hx hs hxl ov0 ov8 hmi hm0
        simp only [List.take_succ_cons, List.take_zero, List.drop_succ_cons, List.drop_zero]
        repeat still_step
        refine wpStill_nil ?_
        go_wp2_with fail
        go_ret
        have hfin : firstBits l0 a1.toNat = xs.set j (Go.bits .and .u8 x (255 * 2 ^ s.toNat % 256)) := by
          have hm := HML.out
          have hz := HZ.out
          have ho := HOV.out
          have h1 := HA1.out
          have hov : ((a1.toNat % 8 : Nat) : Int) = ov := by omega
          unfold firstBits
          rw [if_neg (by omega), ← HM.out, ← HXS.out, ← HJ.out, ← HX.out, hov]
          unfold cutByte
          rw [← HS.out]
        rw [hfin]
        have hge : w.heap.size ≤ g := by rw [HG.out]; exact Nat.le_refl _
        exact ⟨_, rfl, (HTX.out.set j _).R hge (by rw [List.length_set]; exact HXL.out) (by have := HML.out; have := HL.out; unfold maxLen; omega), HB2.out.setCell (by show w.heap.size ≤ g; exact hge) _⟩
      · have hdv : decide (0 < ov) = false := decide_eq_false hz
        have hov0 : ov = 0 := by omega
        have HZ := Aside0.mk hov0
        clear hz hov0
        go_enter Tryd.func87, Tryd.ntmps87
        go_wp2_with (first | ((with_reducible refine gate_builtin (b := .copy) (xs := #[.tmp 21, .tmp 22]) rfl ?_); rw [← HW1.out]; go_must (refine wpList_copy_splice rfl (.tmp 21) (.tmp 22) 33 33 rfl 5 Tryd.underlying33 (by kernel_rfl) (some ⟨w.heap.size, 0, none⟩) A0 m m l0.length c0 rfl rfl w.heap.size 0 (List.replicate m (.int .u8 0)) 5 HT.out ((l0.take m).map (Value.int .u8)) (HTL.out.trans (Nat.min_eq_right HML.out).symm) HCS.out (by rw [HTL.out]; simp) H1C.out w.heap.size _ HBW.out (Nat.le_refl _) ?_; intro w2 HG2 hB2; rw [HTL.out]; have HTB := Aside0.mk (IsBytes.of_splice HG2.out); have HB2 := Aside0.mk hB2; clear HG2 hB2 hm1 hmk ha1 ha2 hl2 hd hd1)))
        go_ret
        have hxl : (l0.take m).length = m := by have := HML.out; rw [List.length_take]; omega
        have hTB : IsBytes w2 w.heap.size 5 (l0.take m) := by have := HTB.out; rw [hxl, Nat.sub_self, List.replicate_zero, List.append_nil] at this; exact this
        have hfin : firstBits l0 a1.toNat = l0.take m := by
          unfold firstBits
          rw [if_pos (by have := HZ.out; have := HOV.out; have := HA1.out; omega), ← HM.out]
        rw [hfin]
        exact ⟨_, rfl, hTB.R (Nat.le_refl _) hxl (by have := HML.out; have := HL.out; unfold maxLen; omega), HB2.out⟩

end Go.Proofs.YtbedgjjiinhpkaaDoor.P

-- Fannalsref01Cut
namespace Go.Proofs.YtbedgjjiinhpkaaDoor.P
open Go.RowKit Go.Proofs.YtbedgjjiinhpkaaDoorW.PrintWords Go.Proofs.YtbedgjjiinhpkaaDoorW.PrintLast Go.Proofs.YtbedgjjiinhpkaaDoorW.PrintMore
attribute [local go_sem] max2_int min2_int max_two min_two max_three min_three max_four min_four   -- for this text's walks alone
set_option linter.unusedVariables false
set_option linter.unusedSimpArgs false

/-! ### annalsref01_Cut: function 153 -/
def annalsref01_Cut.f (a0 : Int) (l1 : List Int) : Option (List Int) := (annalsref01_Sum.f l1).bind fun t153 => (if 0 ≤ (mx 0 (mn a0 32)) then (if (mx 0 (mn a0 32)) ≤ (t153.length : Int) then (some (t153.take ((mx 0 (mn a0 32)) : Int).toNat)) else (none)) else (none))
set_option maxHeartbeats 8000000 in
set_option maxRecDepth 100000 in
theorem annalsref01_Cut.calls (a0 : Int) (A1 : Option Addr) (c1 : Nat) (l1 : List Int) (r : List Int) (w : World) (hr1 : Kd.C (Kd.int .u8) w A1 l1.length l1) (hc1 : l1.length ≤ c1) (h : annalsref01_Cut.f a0 l1 = some r) :
    Calls Tryd.prog 153 #[.int .i64 a0, .slice A1 l1.length c1] w fun e w' => ∃ v0_ : Value, e = .returned (v0_) ∧ Kd.R (Kd.int .u8) 5 w' w.heap.size (fun _ => True) v0_ r ∧ Below w.heap.size w w' := by
  have HR1 := Aside0.mk hr1
  have HC1 := Aside0.mk hc1
  clear hr1 hc1
  have HB := Aside0.mk (Below.refl w.heap.size w)
  have H : ((annalsref01_Sum.f l1).bind fun t153 => (if 0 ≤ (mx 0 (mn a0 32)) then (if (mx 0 (mn a0 32)) ≤ (t153.length : Int) then (some (t153.take ((mx 0 (mn a0 32)) : Int).toNat)) else (none)) else (none))) = some r := h
  clear h
  replace H := Option.bind_eq_some_iff.mp H
  obtain ⟨t153, A30, H⟩ := H
  replace H : (if 0 ≤ (mx 0 (mn a0 32)) then (if (mx 0 (mn a0 32)) ≤ (t153.length : Int) then (some (t153.take ((mx 0 (mn a0 32)) : Int).toNat)) else (none)) else (none)) = some r := H
  have A3 := Aside0.mk A30
  clear A30
  obtain ⟨ji4, hji4⟩ : ∃ j_ : Int, (mn a0 32) = j_ := ⟨_, rfl⟩
  replace H : (if 0 ≤ (mx 0 (ji4)) then (if (mx 0 (ji4)) ≤ (t153.length : Int) then (some (t153.take ((mx 0 (ji4)) : Int).toNat)) else (none)) else (none)) = some r := by first | (rw [hji4] at H; exact H) | (simp only [hji4] at H ⊢; exact H)
  (try rw [hji4] at A3)
  (try (have hji4h : ji4 ≤ 32 := by (rw [← hji4]; unfold mn; (repeat' split) <;> omega)))
  (try (have hji4g : ji4 ≤ 64 := by omega))
  have hji4_ : (if 32 < a0 then 32 else a0) = ji4 := hji4
  obtain ⟨ji5, hji5⟩ : ∃ j_ : Int, (mx 0 (ji4)) = j_ := ⟨_, rfl⟩
  replace H : (if 0 ≤ (ji5) then (if (ji5) ≤ (t153.length : Int) then (some (t153.take ((ji5) : Int).toNat)) else (none)) else (none)) = some r := by first | (rw [hji5] at H; exact H) | (simp only [hji5] at H ⊢; exact H)
  (try rw [hji5] at A3)
  have hji5_ : (if 0 < (ji4) then (ji4) else 0) = ji5 := hji5
  by_cases c6 : 0 ≤ (ji5)
  · rw [if_pos c6] at H
    have c6b0 := eq_true c6
    have c6b1 : decide (0 ≤ (ji5)) = true := decide_eq_true c6
    clear c6
    by_cases c7 : (ji5) ≤ (t153.length : Int)
    · rw [if_pos c7] at H
      have c7b0 := eq_true c7
      have c7b1 : decide ((ji5) ≤ (t153.length : Int)) = true := decide_eq_true c7
      clear c7
      obtain ⟨y156, hy156⟩ : ∃ y_ : List Int, y_ = (t153.take ((ji5) : Int).toNat) := ⟨_, rfl⟩
      replace H : (some y156) = some r := by first | (rw [hy156]; with_reducible exact H) | (have H2_ := (Option.bind_some _ _).symm.trans H; rw [hy156]; with_reducible exact H2_) | (have H2_ := (Option.bind_some _ _).symm.trans H; with_reducible exact H2_) | with_reducible exact H | (rw [hy156]; exact H) | exact H
      have Ny156 := Aside0.mk hy156
      clear hy156
      obtain rfl := Option.some.inj H
      go_enter Tryd.func153, Tryd.ntmps153
      go_wp2_with (first | ((with_reducible refine gate_callee (f := 187) rfl ?_); refine goesL_ (some 6) rfl rfl Tryd.func187 (by kernel_rfl) rfl #[.slice A1 l1.length c1] rfl (by (try simp only [List.map_toArray, List.map_cons, List.map_nil]); first | done | rfl | (simp only [List.length_drop, List.length_take]; rfl)) ?_; (with_reducible refine (annalsref01_Sum.calls _ _ l1 t153 _ ?side1 ?side2 A3.out).mono ?_); (case side1 => repeat (first | exact HR1.out | (with_reducible refine Kd.C_alloc ?_ _) | (with_reducible refine Kd.C_drewN ?_ _) | (with_reducible refine Kd.C_drew ?_))); (case side2 => exact HC1.out); rintro e w8 ⟨v154, rfl, ho0, hb⟩; refine ⟨_, rfl, ?_⟩; have n0_ := Aside0.mk (Kd.R_lower ho0 (below_size (by repeat (first | (with_reducible first | exact HB.out | apply below_alloc | apply pw_below_drewN | apply below_drew1) | exact HB.out)))); have n1_ := Aside0.mk (below_step (by repeat (first | (with_reducible first | exact HB.out | apply below_alloc | apply pw_below_drewN | apply below_drew1) | exact HB.out)) hb); clear HB; have HO155 := n0_; have HB := n1_; clear n0_ n1_; (try clear hb); (try clear hb2); (try clear hk); (try clear hi); (try clear ho0); obtain ⟨Ao9, co9, eo9⟩ := Kd.R_slice HO155.out; subst eo9; have q10 : ((ji5) : Int) ≤ ((t153.length : Int) : Int) := of_decide_eq_true (by first | (with_reducible assumption) | assumption); obtain ⟨i010, hi010, _, hsz10, _⟩ := info_parts info5; have hcut10 := cut_to (P := Tryd.prog) 33 5 .i64 Tryd.underlying33 hi010 Ao9 t153.length co9 (ji5) (of_decide_eq_true (by first | (with_reducible assumption) | assumption)) q10 (Kd.R_reads' HO155.out).2.1; have hr10 := Kd.R_take (m := ((ji5) : Int).toNat) HO155.out (by omega); have hy10 : y156.length = ((ji5) : Int).toNat := (by rw [Ny156.out, List.length_take]; omega); rw [← Ny156.out] at hr10; rw [← hy10] at hr10 hcut10; clear hy10 hi010 hsz10 HO155; have HO158 := Aside0.mk hr10; clear hr10; replace q10 := eq_true q10))
      go_ret
      exact ⟨_, by first | rfl | (simp [errW_none, errW_some] <;> rfl) | (simp only [← hji4, ← hji5]; first | rfl | (simp [errW_none, errW_some] <;> rfl)) | (simp [*, errW_none, errW_some] <;> rfl), by (with_reducible repeat (first | apply Kd.R_alloc | apply Kd.R_drewN | apply Kd.R_drew)); exact HO158.out, by repeat (first | (with_reducible first | exact HB.out | apply below_alloc | apply pw_below_drewN | apply below_drew1) | exact HB.out)⟩
    · rw [if_neg c7] at H
      exact absurd H (by simp)
  · rw [if_neg c6] at H
    exact absurd H (by simp)

end Go.Proofs.YtbedgjjiinhpkaaDoor.P

-- Fannalsref02Text
namespace Go.Proofs.YtbedgjjiinhpkaaDoor.P
open Go.RowKit Go.Proofs.YtbedgjjiinhpkaaDoorW.PrintWords Go.Proofs.YtbedgjjiinhpkaaDoorW.PrintLast Go.Proofs.YtbedgjjiinhpkaaDoorW.PrintMore
attribute [local go_sem] max2_int min2_int max_two min_two max_three min_three max_four min_four   -- for this text's walks alone
set_option linter.unusedVariables false
set_option linter.unusedSimpArgs false

/-! ### annalsref02_Text: function 152 -/
mutual
def annalsref02_Text.j0 : Nat → Int → List (List Int) → Bool → Option (List Int × Int)
  | 0, _, _, _ => none
  | k + 1, x0, x1, x14 => if x14 = true then (some (([] : List Int), 1)) else (annalsref02_Text.l0 k (([(x0) % 256] : List Int)) x1 (x1.length : Int) 0)
def annalsref02_Text.l0 : Nat → List Int → List (List Int) → Int → Int → Option (List Int × Int)
  | 0, _, _, _, _ => none
  | k + 1, x6, x18, x19, x20 => if x20 < x19 then (if 0 ≤ x20 then (if x20 < (x18.length : Int) then (if ((rd_L1 x18 x20).length : Int) > 65535 then (some (([] : List Int), 4)) else ((some (([(((rd_L1 x18 x20).length : Int) / 256) % 256, (((rd_L1 x18 x20).length : Int)) % 256] : List Int) : List Int)).bind fun y140 => (if x6.length + y140.length < 140737488355328 then ((some (x6 ++ y140 : List Int)).bind fun y143 => (if y143.length + (rd_L1 x18 x20).length < 140737488355328 then (annalsref02_Text.l0 k (y143 ++ (rd_L1 x18 x20)) x18 x19 (wrap64 (x20 + 1))) else (none))) else (none)))) else (none)) else (none)) else (some (x6, 0))
end
def annalsref02_Text.f (k : Nat) (a0 : Int) (l1 : List (List Int)) : Option (List Int × Int) := if a0 < 0 then (annalsref02_Text.j0 k a0 l1 true) else (annalsref02_Text.j0 k a0 l1 (decide (a0 > 255)))
theorem annalsref02_Text.mono_l : ∀ k, (∀ y0 y1 y2, LeO (annalsref02_Text.j0 k y0 y1 y2) (annalsref02_Text.j0 (k + 1) y0 y1 y2)) ∧ (∀ y0 y1 y2 y3, LeO (annalsref02_Text.l0 k y0 y1 y2 y3) (annalsref02_Text.l0 (k + 1) y0 y1 y2 y3))
  | 0 => ⟨fun _ _ _ r h => by simp [annalsref02_Text.j0] at h, fun _ _ _ _ r h => by simp [annalsref02_Text.l0] at h⟩
  | k + 1 => by
    obtain ⟨ih0, ih1⟩ := annalsref02_Text.mono_l k
    refine ⟨?_, ?_⟩
    · intro y0 y1 y2
      unfold annalsref02_Text.j0
      repeat' first
      | (with_reducible exact ih0 _ _ _)
      | (with_reducible exact ih1 _ _ _ _)
      | (with_reducible exact LeO.refl _)
      | (with_reducible exact LeO.none _)
      | (with_reducible refine LeO.ite ?_ ?_)
      | (with_reducible refine LeO.bind ?_ (fun _ => ?_))
      | exact ih0 _ _ _
      | exact ih1 _ _ _ _
      | exact LeO.none _
      | refine LeO.ite ?_ ?_
      | refine LeO.bind ?_ (fun _ => ?_)
    · intro y0 y1 y2 y3
      unfold annalsref02_Text.l0
      repeat' first
      | (with_reducible exact ih0 _ _ _)
      | (with_reducible exact ih1 _ _ _ _)
      | (with_reducible exact LeO.refl _)
      | (with_reducible exact LeO.none _)
      | (with_reducible refine LeO.ite ?_ ?_)
      | (with_reducible refine LeO.bind ?_ (fun _ => ?_))
      | exact ih0 _ _ _
      | exact ih1 _ _ _ _
      | exact LeO.none _
      | refine LeO.ite ?_ ?_
      | refine LeO.bind ?_ (fun _ => ?_)
theorem annalsref02_Text.mono : ∀ a0 a1 k, LeO (annalsref02_Text.f k a0 a1) (annalsref02_Text.f (k + 1) a0 a1) := by
  intro a0 a1 k
  obtain ⟨ih0, ih1⟩ := annalsref02_Text.mono_l k
  unfold annalsref02_Text.f
  repeat' first
      | (with_reducible exact ih0 _ _ _)
      | (with_reducible exact ih1 _ _ _ _)
      | (with_reducible exact LeO.refl _)
      | (with_reducible exact LeO.none _)
      | (with_reducible refine LeO.ite ?_ ?_)
      | (with_reducible refine LeO.bind ?_ (fun _ => ?_))
      | exact ih0 _ _ _
      | exact ih1 _ _ _ _
      | exact LeO.none _
      | refine LeO.ite ?_ ?_
      | refine LeO.bind ?_ (fun _ => ?_)
set_option maxHeartbeats 8000000 in
set_option maxRecDepth 100000 in
theorem annalsref02_Text.calls (k : Nat) (a0 : Int) (A1 : Option Addr) (c1 : Nat) (l1 : List (List Int)) (r1 : List Int) (r2 : Int) (w : World) (hr1 : Kd.C (Kd.slice 5 (Kd.int .u8)) w A1 l1.length l1) (hc1 : l1.length ≤ c1) (h : annalsref02_Text.f k a0 l1 = some (r1, r2)) :
    Calls Tryd.prog 152 #[.int .i64 a0, .slice A1 l1.length c1] w fun e w' => ∃ v0_ : Value, e = .returned (.tuple #[v0_, .int .i64 r2]) ∧ Kd.R (Kd.int .u8) 5 w' w.heap.size (fun _ => True) v0_ r1 ∧ Below w.heap.size w w' := by
  have HR1 := Aside0.mk hr1
  have HC1 := Aside0.mk hc1
  clear hr1 hc1
  have HB := Aside0.mk (Below.refl w.heap.size w)
  have H : (if a0 < 0 then (annalsref02_Text.j0 k a0 l1 true) else (annalsref02_Text.j0 k a0 l1 (decide (a0 > 255)))) = some (r1, r2) := h
  clear h
  have HC3 := Aside0.mk H
  clear H
  go_enter Tryd.func152, Tryd.ntmps152
  go_upto_region 1 with (fail)
  go_cut [14] (fun v14 wc => ∃ (kq : Nat) (x14_2 : Bool), v14 = .bool x14_2 ∧ Aside0 (annalsref02_Text.j0 kq a0 l1 x14_2 = some (r1, r2)) ∧ Aside0 (kq ≤ k) ∧ Aside0 (Below w.heap.size w wc))
  case first =>
    have H := HC3.out
    clear HC3
    by_cases c4 : a0 < 0
    · rw [if_pos c4] at H
      have c4b0 : decide (a0 < 0) = true := decide_eq_true c4
      clear c4
      (first | rw [c4b0] | (simp only [i64_w, i32_w]; rw [c4b0]) | skip)
      have H' := Aside0.mk H
      clear H
      go_wp2
      go_meet
      case rel => exact ⟨_, (true), (by first | rfl | (simp; done) | (simp [*]; done)), H', ⟨by first | omega | exact Nat.le_refl _⟩, ⟨by repeat (first | (with_reducible first | exact HB.out | apply below_alloc | apply pw_below_drewN | apply below_drew1) | exact HB.out)⟩⟩
    · rw [if_neg c4] at H
      have c4b0 : decide (a0 < 0) = false := decide_eq_false c4
      clear c4
      (first | rw [c4b0] | (simp only [i64_w, i32_w]; rw [c4b0]) | skip)
      have H' := Aside0.mk H
      clear H
      go_wp2
      go_meet
      case rel => exact ⟨_, (decide (a0 > 255)), (by first | rfl | (simp; done) | (simp [*]; done)), H', ⟨by first | omega | exact Nat.le_refl _⟩, ⟨by repeat (first | (with_reducible first | exact HB.out | apply below_alloc | apply pw_below_drewN | apply below_drew1) | exact HB.out)⟩⟩
  case rest =>
    clear HC3
    try clear c1
    try clear p2
    try clear c4
    try clear c4b0
    obtain ⟨kq, x14_2, rfl, HA, HJ2, HB⟩ := hcut
    cases kq with
    | zero => exact absurd HA.out (by simp [annalsref02_Text.j0])
    | succ kj2 =>
      have H := HA.out
      clear HA
      simp only [annalsref02_Text.j0] at H
      by_cases c5 : x14_2 = true
      · subst c5
        have H1 : (some (([] : List Int), 1)) = some (r1, r2) := by rw [if_pos rfl] at H; exact H
        clear H
        have H := H1
        clear H1
        simp only [Option.some.injEq, Prod.mk.injEq] at H
        obtain ⟨rfl, rfl⟩ := H
        go_wp2
        go_ret2
        exact ⟨_, by first | rfl | (simp [errW_none, errW_some] <;> rfl) | (simp [*, errW_none, errW_some] <;> rfl), by first | exact Kd.R_nil _ _ _ _ _ | exact Kd.N_nil _ _ _ _ _ | exact Kd.V_nil _ _ _ _ _ | exact Kd.Q_nil _ _ _ _ _ | exact Kd.S_nil _ _ _ _ _, by repeat (first | (with_reducible first | exact HB.out | apply below_alloc | apply pw_below_drewN | apply below_drew1) | exact HB.out)⟩
      · replace c5 := Bool.eq_false_iff.mpr c5
        subst c5
        have H1 : (annalsref02_Text.l0 kj2 (([(a0) % 256] : List Int)) l1 (l1.length : Int) 0) = some (r1, r2) := by rw [if_neg (show ¬ (false = true) by decide)] at H; exact H
        clear H
        have H := H1
        clear H1
        obtain ⟨y136, hy136⟩ : ∃ y_ : List Int, y_ = (([(a0) % 256] : List Int)) := ⟨_, rfl⟩
        replace H : (annalsref02_Text.l0 kj2 y136 l1 (l1.length : Int) 0) = some (r1, r2) := by first | (rw [hy136]; with_reducible exact H) | (have H2_ := (Option.bind_some _ _).symm.trans H; rw [hy136]; with_reducible exact H2_) | (have H2_ := (Option.bind_some _ _).symm.trans H; with_reducible exact H2_) | with_reducible exact H | (rw [hy136]; exact H) | exact H
        have Ny136 := Aside0.mk hy136
        clear hy136
        have H' := Aside0.mk H
        clear H
        go_wp2_with (first | ((with_reducible refine gate_dst (N := 17) rfl ?_); refine Kd.R_lit (Kd.int .u8) _ 5 ?hg (N := 17) ?hd (xs := ([(a0) % 256] : List Int)) (inner := [.int .u8 ((a0) % 256)]) (ok := fun _ => True) (okp := fun _ => True) ?hr ?hp (fun _ hk => hk) trivial (Below.refl _ _) (Nat.le_refl _) (by simp) ?_; (case hd => rfl); (case hg => rfl); (case hr => first | (go_simp; done) | (go_simp; rfl)); (case hp => exact (Reps.one (show Kd.M (Kd.int .u8) _ _ _ ((a0) % 256) [.int .u8 ((a0) % 256)] from rfl) (Reps.none _ _))); intro v137 w6 ho7 hb hg_ hnew_; clear hg_ hnew_; (first | rw [← Ny136.out] at ho7 | (simp only [Int.reduceToNat] at ho7; rw [← Ny136.out] at ho7)); have n0_ := Aside0.mk (Kd.R_lower ho7 (below_size (by repeat (first | (with_reducible first | exact HB.out | apply below_alloc | apply pw_below_drewN | apply below_drew1) | exact HB.out)))); have n1_ := Aside0.mk (below_step (by repeat (first | (with_reducible first | exact HB.out | apply below_alloc | apply pw_below_drewN | apply below_drew1) | exact HB.out)) hb); clear HB; have HO138 := n0_; have HB := n1_; clear n0_ n1_; clear hb ho7))
        go_loopg [6, 20] kj2 (fun kq v6 v20 w' => ∃ (x6_2 : List Int) (x20_2 : Int), v20 = .int .i64 x20_2 ∧ Aside0 (annalsref02_Text.l0 kq x6_2 l1 (l1.length : Int) x20_2 = some (r1, r2)) ∧ Aside0 (kq ≤ kj2) ∧ Aside0 (Kd.R (Kd.int .u8) 5 w' w.heap.size (fun _ => True) v6 x6_2) ∧ Aside0 (Below w.heap.size w w'))
        case atStart => exact ⟨(y136), (0), (by first | rfl | (simp; done) | (simp [*]; done)), H', ⟨Nat.le_refl _⟩, ⟨by (with_reducible repeat (first | apply Kd.R_alloc | apply Kd.R_drewN | apply Kd.R_drew)); exact HO138.out⟩, ⟨by repeat (first | (with_reducible first | exact HB.out | apply below_alloc | apply pw_below_drewN | apply below_drew1) | exact HB.out)⟩⟩
        case round =>
          clear H'
          try clear c1
          try clear p2
          try clear c4
          try clear c4b0
          try clear c5
          try clear p2
          obtain ⟨x6_2, x20_2, rfl, HA, HK2, HO_6, HB⟩ := hrel
          cases gk with
          | zero => exact absurd HA.out (by simp [annalsref02_Text.l0])
          | succ k2 =>
            have H := HA.out
            clear HA
            simp only [annalsref02_Text.l0] at H
            by_cases c8 : x20_2 < (l1.length : Int)
            · rw [if_pos c8] at H
              have c8b0 : decide (x20_2 < (l1.length : Int)) = true := decide_eq_true c8
              clear c8
              by_cases c9 : 0 ≤ x20_2
              · rw [if_pos c9] at H
                have c9b0 : decide (0 ≤ x20_2) = true := decide_eq_true c9
                clear c9
                by_cases c10 : x20_2 < (l1.length : Int)
                · rw [if_pos c10] at H
                  have c10b0 : decide (x20_2 < (l1.length : Int)) = true := decide_eq_true c10
                  clear c10
                  by_cases c11 : ((rd_L1 l1 x20_2).length : Int) > 65535
                  · rw [if_pos c11] at H
                    have c11b0 : decide (65535 < ((rd_L1 l1 x20_2).length : Int)) = true := decide_eq_true c11
                    have c11b1 : decide (65535 < (rd_L1 l1 x20_2).length) = true := decide_eq_true (by omega)
                    clear c11
                    simp only [Option.some.injEq, Prod.mk.injEq] at H
                    obtain ⟨rfl, rfl⟩ := H
                    have p139 : 0 ≤ (x20_2 : Int) := of_decide_eq_true (by first | (with_reducible assumption) | assumption)
                    have q139 : x20_2 < (l1.length : Int) := of_decide_eq_true (by first | (with_reducible assumption) | assumption)
                    obtain ⟨ad139, A139_0, c139_0, e139, hx139_0, hl139_0, hi139_0⟩ := at_L1 HR1.out x20_2 p139 q139
                    cases e139
                    replace hx139_0 := (HB.out.cell (World.block_lt_of_cell? w _ hx139_0)).trans hx139_0
                    have HR139_0 := Aside0.mk hi139_0
                    have HC139_0 := Aside0.mk hl139_0
                    clear hi139_0 hl139_0
                    replace p139 := eq_true p139
                    replace q139 := eq_true q139
                    go_wp2
                    go_ret2
                    exact ⟨_, by first | rfl | (simp [errW_none, errW_some] <;> rfl) | (simp [*, errW_none, errW_some] <;> rfl), by first | exact Kd.R_nil _ _ _ _ _ | exact Kd.N_nil _ _ _ _ _ | exact Kd.V_nil _ _ _ _ _ | exact Kd.Q_nil _ _ _ _ _ | exact Kd.S_nil _ _ _ _ _, by repeat (first | (with_reducible first | exact HB.out | apply below_alloc | apply pw_below_drewN | apply below_drew1) | exact HB.out)⟩
                  · rw [if_neg c11] at H
                    have c11b0 : decide (65535 < ((rd_L1 l1 x20_2).length : Int)) = false := decide_eq_false c11
                    have c11b1 : decide (65535 < (rd_L1 l1 x20_2).length) = false := decide_eq_false (by omega)
                    clear c11
                    obtain ⟨y140, hy140⟩ : ∃ y_ : List Int, y_ = (([(((rd_L1 l1 x20_2).length : Int) / 256) % 256, (((rd_L1 l1 x20_2).length : Int)) % 256] : List Int)) := ⟨_, rfl⟩
                    replace H : (if x6_2.length + y140.length < 140737488355328 then ((some (x6_2 ++ y140 : List Int)).bind fun y143 => (if y143.length + (rd_L1 l1 x20_2).length < 140737488355328 then (annalsref02_Text.l0 k2 (y143 ++ (rd_L1 l1 x20_2)) l1 (l1.length : Int) (wrap64 (x20_2 + 1))) else (none))) else (none)) = some (r1, r2) := by first | (rw [hy140]; with_reducible exact H) | (have H2_ := (Option.bind_some _ _).symm.trans H; rw [hy140]; with_reducible exact H2_) | (have H2_ := (Option.bind_some _ _).symm.trans H; with_reducible exact H2_) | with_reducible exact H | (rw [hy140]; exact H) | exact H
                    have Ny140 := Aside0.mk hy140
                    clear hy140
                    by_cases c12 : x6_2.length + y140.length < 140737488355328
                    · rw [if_pos c12] at H
                      have LMc12 := Aside0.mk c12
                      clear c12
                      obtain ⟨y143, hy143⟩ : ∃ y_ : List Int, y_ = (x6_2 ++ y140) := ⟨_, rfl⟩
                      replace H : (if y143.length + (rd_L1 l1 x20_2).length < 140737488355328 then (annalsref02_Text.l0 k2 (y143 ++ (rd_L1 l1 x20_2)) l1 (l1.length : Int) (wrap64 (x20_2 + 1))) else (none)) = some (r1, r2) := by first | (rw [hy143]; with_reducible exact H) | (have H2_ := (Option.bind_some _ _).symm.trans H; rw [hy143]; with_reducible exact H2_) | (have H2_ := (Option.bind_some _ _).symm.trans H; with_reducible exact H2_) | with_reducible exact H | (rw [hy143]; exact H) | exact H
                      have Ny143 := Aside0.mk hy143
                      clear hy143
                      by_cases c13 : y143.length + (rd_L1 l1 x20_2).length < 140737488355328
                      · rw [if_pos c13] at H
                        have LMc13 := Aside0.mk c13
                        clear c13
                        obtain ⟨y146, hy146⟩ : ∃ y_ : List Int, y_ = (y143 ++ (rd_L1 l1 x20_2)) := ⟨_, rfl⟩
                        replace H : (annalsref02_Text.l0 k2 y146 l1 (l1.length : Int) (wrap64 (x20_2 + 1))) = some (r1, r2) := by first | (rw [hy146]; with_reducible exact H) | (have H2_ := (Option.bind_some _ _).symm.trans H; rw [hy146]; with_reducible exact H2_) | (have H2_ := (Option.bind_some _ _).symm.trans H; with_reducible exact H2_) | with_reducible exact H | (rw [hy146]; exact H) | exact H
                        have Ny146 := Aside0.mk hy146
                        clear hy146
                        have H' := Aside0.mk H
                        clear H
                        have p139 : 0 ≤ (x20_2 : Int) := of_decide_eq_true (by first | (with_reducible assumption) | assumption)
                        have q139 : x20_2 < (l1.length : Int) := of_decide_eq_true (by first | (with_reducible assumption) | assumption)
                        obtain ⟨ad139, A139_0, c139_0, e139, hx139_0, hl139_0, hi139_0⟩ := at_L1 HR1.out x20_2 p139 q139
                        cases e139
                        replace hx139_0 := (HB.out.cell (World.block_lt_of_cell? w _ hx139_0)).trans hx139_0
                        have HR139_0 := Aside0.mk hi139_0
                        have HC139_0 := Aside0.mk hl139_0
                        clear hi139_0 hl139_0
                        replace p139 := eq_true p139
                        replace q139 := eq_true q139
                        go_wp2_with (first | ((with_reducible refine gate_dst (N := 35) rfl ?_); refine Kd.R_lit (Kd.int .u8) _ 5 ?hg (N := 35) ?hd (xs := ([(((rd_L1 l1 x20_2).length : Int) / 256) % 256, (((rd_L1 l1 x20_2).length : Int)) % 256] : List Int)) (inner := [.int .u8 ((((rd_L1 l1 x20_2).length : Int) / 256) % 256), .int .u8 ((((rd_L1 l1 x20_2).length : Int)) % 256)]) (ok := fun _ => True) (okp := fun _ => True) ?hr ?hp (fun _ hk => hk) trivial (Below.refl _ _) (Nat.le_refl _) (by simp) ?_; (case hd => rfl); (case hg => rfl); (case hr => first | (go_simp; done) | (go_simp; rfl)); (case hp => exact (Reps.one (show Kd.M (Kd.int .u8) _ _ _ ((((rd_L1 l1 x20_2).length : Int) / 256) % 256) [.int .u8 ((((rd_L1 l1 x20_2).length : Int) / 256) % 256)] from rfl) (Reps.one (show Kd.M (Kd.int .u8) _ _ _ ((((rd_L1 l1 x20_2).length : Int)) % 256) [.int .u8 ((((rd_L1 l1 x20_2).length : Int)) % 256)] from rfl) (Reps.none _ _)))); intro v141 w14 ho15 hb hg_ hnew_; clear hg_ hnew_; (first | rw [← Ny140.out] at ho15 | (simp only [Int.reduceToNat] at ho15; rw [← Ny140.out] at ho15)); have n0_ := Aside0.mk (Kd.R_elder' (by (with_reducible repeat (first | apply Kd.R_alloc | apply Kd.R_drewN | apply Kd.R_drew)); exact HO_6.out) (Kd.R_base ho15) hb); have n1_ := Aside0.mk (Kd.R_lower (Kd.R_new' ho15 (Kd.R_lt (by (with_reducible repeat (first | apply Kd.R_alloc | apply Kd.R_drewN | apply Kd.R_drew)); exact HO_6.out))) (below_size (by repeat (first | (with_reducible first | exact HB.out | apply below_alloc | apply pw_below_drewN | apply below_drew1) | exact HB.out)))); have n2_ := Aside0.mk (below_step (by repeat (first | (with_reducible first | exact HB.out | apply below_alloc | apply pw_below_drewN | apply below_drew1) | exact HB.out)) hb); clear HO_6; clear HB; have HO_6 := n0_; have HO142 := n1_; have HB := n2_; clear n0_ n1_ n2_; clear hb ho15; obtain ⟨Ao17, co17, eo17⟩ := Kd.R_slice HO142.out; subst eo17) | ((with_reducible refine gate_builtin (b := .append) (xs := #[.tmp 27, .tmp 35]) rfl ?_); at_builtin; refine Kd.R_append_rows (Kd.int .u8) (w0 := w) w.heap.size rfl (.tmp 27) (.tmp 35) 33 5 (.int .u8 0) 1 rfl Tryd.underlying33 info5 rfl (by decide) (by omega) u6 x6_2 y140 _ _ _ (fun k_ => some k_ ≠ (.slice Ao17 y140.length co17 : Value).ownBlock) (fun _ => False) rfl rfl ?aO ?aR (fun _ _ h => h) (fun _ h => h.elim) ?aF ?aB ?aS ?aL ?_; (case aR => repeat (first | exact (Kd.R_reads' HO142.out).2.2 | (with_reducible refine Kd.C_alloc ?_ _) | (with_reducible refine Kd.C_drewN ?_ _) | (with_reducible refine Kd.C_drew ?_))); (case aB => exact (by repeat (first | (with_reducible first | exact HB.out | apply below_alloc | apply pw_below_drewN | apply below_drew1) | exact HB.out))); (case aF => exact (fun k_ hk => Kd.fresh' (Kd.R_lt (by (with_reducible repeat (first | apply Kd.R_alloc | apply Kd.R_drewN | apply Kd.R_drew)); exact HO142.out)) k_ hk)); (case aO => exact (by (with_reducible repeat (first | apply Kd.R_alloc | apply Kd.R_drewN | apply Kd.R_drew)); exact Kd.R_mono HO_6.out (fun _ hk => hk.2))); (case aS => exact (below_size (by repeat (first | (with_reducible first | exact HB.out | apply below_alloc | apply pw_below_drewN | apply below_drew1) | exact HB.out)))); (case aL => have := LMc12.out; omega); intro v144 w16 ho hb hg hat; rw [← Ny143.out] at ho; have n0_ := Aside0.mk (Kd.R_after (ok := (fun _ => True)) (by (with_reducible repeat (first | apply Kd.R_alloc | apply Kd.R_drewN | apply Kd.R_drew)); exact HO142.out) hg hat); have n1_ := Aside0.mk (hb); have n2_ := Aside0.mk (ho); clear HO142; clear HB; clear HO_6; have HO142 := n0_; have HB := n1_; have HO145 := n2_; clear n0_ n1_ n2_; clear ho hb hg hat) | ((with_reducible refine gate_builtin (b := .append) (xs := #[.tmp 36, .tmp 37]) rfl ?_); at_builtin; refine Kd.R_append_rows (Kd.int .u8) (w0 := w) w.heap.size rfl (.tmp 36) (.tmp 37) 33 5 (.int .u8 0) 1 rfl Tryd.underlying33 info5 rfl (by decide) (by omega) v144 y143 (rd_L1 l1 x20_2) _ _ _ (fun k_ => some k_ ≠ (.slice Ao17 y140.length co17 : Value).ownBlock) (fun _ => False) rfl rfl ?aO ?aR (fun _ _ h => h) (fun _ h => h.elim) ?aF ?aB ?aS ?aL ?_; (case aR => repeat (first | exact (Kd.C_below HR139_0.out HB.out) | (with_reducible refine Kd.C_alloc ?_ _) | (with_reducible refine Kd.C_drewN ?_ _) | (with_reducible refine Kd.C_drew ?_))); (case aB => exact (by repeat (first | (with_reducible first | exact HB.out | apply below_alloc | apply pw_below_drewN | apply below_drew1) | exact HB.out))); (case aF => exact (fun k_ hk => Kd.fresh' (Kd.R_lt (by (with_reducible repeat (first | apply Kd.R_alloc | apply Kd.R_drewN | apply Kd.R_drew)); exact HO142.out)) k_ hk)); (case aO => exact (by (with_reducible repeat (first | apply Kd.R_alloc | apply Kd.R_drewN | apply Kd.R_drew)); exact HO145.out)); (case aS => exact (below_size (by repeat (first | (with_reducible first | exact HB.out | apply below_alloc | apply pw_below_drewN | apply below_drew1) | exact HB.out)))); (case aL => have := LMc13.out; omega); intro v147 w18 ho hb hg hat; rw [← Ny146.out] at ho; have n0_ := Aside0.mk (Kd.R_after (ok := (fun _ => True)) (by (with_reducible repeat (first | apply Kd.R_alloc | apply Kd.R_drewN | apply Kd.R_drew)); exact HO142.out) hg hat); have n1_ := Aside0.mk (hb); have n2_ := Aside0.mk (ho); clear HO142; clear HB; clear HO145; have HO142 := n0_; have HB := n1_; have HO148 := n2_; clear n0_ n1_ n2_; clear ho hb hg hat))
                        go_roundg k2
                        case measure => have := HJ2.out; have := HK2.out; omega
                        case rel => exact ⟨(y146), (wrap64 (x20_2 + 1)), (by first | rfl | (simp; done) | (simp [*]; done)), H', ⟨by have := HJ2.out; have := HK2.out; omega⟩, ⟨by (with_reducible repeat (first | apply Kd.R_alloc | apply Kd.R_drewN | apply Kd.R_drew)); exact Kd.R_mono HO148.out (fun _ hk => trivial)⟩, ⟨by repeat (first | (with_reducible first | exact HB.out | apply below_alloc | apply pw_below_drewN | apply below_drew1) | exact HB.out)⟩⟩
                      · rw [if_neg c13] at H
                        exact absurd H (by simp)
                    · rw [if_neg c12] at H
                      exact absurd H (by simp)
                · rw [if_neg c10] at H
                  exact absurd H (by simp)
              · rw [if_neg c9] at H
                exact absurd H (by simp)
            · rw [if_neg c8] at H
              have c8b0 : decide (x20_2 < (l1.length : Int)) = false := decide_eq_false c8
              clear c8
              simp only [Option.some.injEq, Prod.mk.injEq] at H
              obtain ⟨rfl, rfl⟩ := H
              go_wp2
              go_ret2
              exact ⟨_, by first | rfl | (simp [errW_none, errW_some] <;> rfl) | (simp [*, errW_none, errW_some] <;> rfl), by (with_reducible repeat (first | apply Kd.R_alloc | apply Kd.R_drewN | apply Kd.R_drew)); exact HO_6.out, by repeat (first | (with_reducible first | exact HB.out | apply below_alloc | apply pw_below_drewN | apply below_drew1) | exact HB.out)⟩

end Go.Proofs.YtbedgjjiinhpkaaDoor.P

-- Fannalsref02Hash
namespace Go.Proofs.YtbedgjjiinhpkaaDoor.P
open Go.RowKit Go.Proofs.YtbedgjjiinhpkaaDoorW.PrintWords Go.Proofs.YtbedgjjiinhpkaaDoorW.PrintLast Go.Proofs.YtbedgjjiinhpkaaDoorW.PrintMore
attribute [local go_sem] max2_int min2_int max_two min_two max_three min_three max_four min_four   -- for this text's walks alone
set_option linter.unusedVariables false
set_option linter.unusedSimpArgs false

/-! ### annalsref02_Hash: function 85 -/
def annalsref02_Hash.f (k : Nat) (a0 : Int) (a1 : Int) (l2 : List (List Int)) : Option (List Int) := (annalsref02_Text.f k a1 l2).bind fun bt159 => (if bt159.2 = 0 then ((annalsref01_Cut.f a0 bt159.1).bind fun t163 => (some t163)) else (some ([] : List Int)))
theorem annalsref02_Hash.mono : ∀ a0 a1 a2 k, LeO (annalsref02_Hash.f k a0 a1 a2) (annalsref02_Hash.f (k + 1) a0 a1 a2) := by
  intro a0 a1 a2 k
  unfold annalsref02_Hash.f
  repeat' first
      | (with_reducible exact annalsref02_Text.mono _ _ _)
      | (with_reducible exact LeO.refl _)
      | (with_reducible exact LeO.none _)
      | (with_reducible refine LeO.ite ?_ ?_)
      | (with_reducible refine LeO.bind ?_ (fun _ => ?_))
      | exact annalsref02_Text.mono _ _ _
      | exact LeO.none _
      | refine LeO.ite ?_ ?_
      | refine LeO.bind ?_ (fun _ => ?_)
set_option maxHeartbeats 8000000 in
set_option maxRecDepth 100000 in
theorem annalsref02_Hash.calls (k : Nat) (a0 : Int) (a1 : Int) (A2 : Option Addr) (c2 : Nat) (l2 : List (List Int)) (r : List Int) (w : World) (hr2 : Kd.C (Kd.slice 5 (Kd.int .u8)) w A2 l2.length l2) (hc2 : l2.length ≤ c2) (h : annalsref02_Hash.f k a0 a1 l2 = some r) :
    Calls Tryd.prog 85 #[.int .i64 a0, .int .i64 a1, .slice A2 l2.length c2] w fun e w' => ∃ v0_ : Value, e = .returned (v0_) ∧ Kd.R (Kd.int .u8) 5 w' w.heap.size (fun _ => True) v0_ r ∧ Below w.heap.size w w' := by
  have HR2 := Aside0.mk hr2
  have HC2 := Aside0.mk hc2
  clear hr2 hc2
  have HB := Aside0.mk (Below.refl w.heap.size w)
  have H : ((annalsref02_Text.f k a1 l2).bind fun bt159 => (if bt159.2 = 0 then ((annalsref01_Cut.f a0 bt159.1).bind fun t163 => (some t163)) else (some ([] : List Int)))) = some r := h
  clear h
  replace H := Option.bind_eq_some_iff.mp H
  obtain ⟨⟨t159, t160⟩, A40, H⟩ := H
  replace H : (if t160 = 0 then ((annalsref01_Cut.f a0 t159).bind fun t163 => (some t163)) else (some ([] : List Int))) = some r := H
  have A4 := Aside0.mk A40
  clear A40
  by_cases c5 : t160 = 0
  · rw [if_pos c5] at H
    have c5b0 : (t160 == 0) = true := beq_iff_eq.mpr c5
    have c5b1 : (t160 != 0) = false := bne_eq_false_iff_eq.mpr c5
    clear c5
    replace H := Option.bind_eq_some_iff.mp H
    obtain ⟨t163, A60, H⟩ := H
    replace H : (some t163) = some r := H
    have A6 := Aside0.mk A60
    clear A60
    obtain rfl := Option.some.inj H
    go_enter Tryd.func85, Tryd.ntmps85
    go_wp2_with (first | ((with_reducible refine gate_callee (f := 152) rfl ?_); refine goesL_ (some 12) rfl rfl Tryd.func152 (by kernel_rfl) rfl #[.int .i64 a1, .slice A2 l2.length c2] rfl (by (try simp only [List.map_toArray, List.map_cons, List.map_nil]); first | done | rfl | (simp only [List.length_drop, List.length_take]; rfl)) ?_; (with_reducible refine (annalsref02_Text.calls k a1 _ _ l2 t159 t160 _ ?side1 ?side2 A4.out).mono ?_); (case side1 => repeat (first | exact HR2.out | (with_reducible refine Kd.C_alloc ?_ _) | (with_reducible refine Kd.C_drewN ?_ _) | (with_reducible refine Kd.C_drew ?_))); (case side2 => exact HC2.out); rintro e w7 ⟨v161, rfl, ho0, hb⟩; refine ⟨_, rfl, ?_⟩; have n0_ := Aside0.mk (Kd.R_lower ho0 (below_size (by repeat (first | (with_reducible first | exact HB.out | apply below_alloc | apply pw_below_drewN | apply below_drew1) | exact HB.out)))); have n1_ := Aside0.mk (below_step (by repeat (first | (with_reducible first | exact HB.out | apply below_alloc | apply pw_below_drewN | apply below_drew1) | exact HB.out)) hb); clear HB; have HO162 := n0_; have HB := n1_; clear n0_ n1_; (try clear hb); (try clear hb2); (try clear hk); (try clear hi); (try clear ho0); obtain ⟨Ao8, co8, eo8⟩ := Kd.R_slice HO162.out; subst eo8) | ((with_reducible refine gate_callee (f := 153) rfl ?_); refine goesL_ (some 19) rfl rfl Tryd.func153 (by kernel_rfl) rfl #[.int .i64 a0, .slice Ao8 t159.length co8] rfl (by (try simp only [List.map_toArray, List.map_cons, List.map_nil]); first | done | rfl | (simp only [List.length_drop, List.length_take]; rfl)) ?_; (with_reducible refine (annalsref01_Cut.calls a0 _ _ t159 t163 _ ?side1 ?side2 A6.out).mono ?_); (case side1 => repeat (first | exact (Kd.R_reads' HO162.out).2.2 | (with_reducible refine Kd.C_alloc ?_ _) | (with_reducible refine Kd.C_drewN ?_ _) | (with_reducible refine Kd.C_drew ?_))); (case side2 => exact (Kd.R_reads' HO162.out).2.1); rintro e w9 ⟨v164, rfl, ho0, hb⟩; refine ⟨_, rfl, ?_⟩; have n0_ := Aside0.mk (Kd.R_elder' (by (with_reducible repeat (first | apply Kd.R_alloc | apply Kd.R_drewN | apply Kd.R_drew)); exact HO162.out) (Kd.R_base ho0) hb); have n1_ := Aside0.mk (Kd.R_lower (Kd.R_new' ho0 (Kd.R_lt (by (with_reducible repeat (first | apply Kd.R_alloc | apply Kd.R_drewN | apply Kd.R_drew)); exact HO162.out))) (below_size (by repeat (first | (with_reducible first | exact HB.out | apply below_alloc | apply pw_below_drewN | apply below_drew1) | exact HB.out)))); have n2_ := Aside0.mk (below_step (by repeat (first | (with_reducible first | exact HB.out | apply below_alloc | apply pw_below_drewN | apply below_drew1) | exact HB.out)) hb); clear HO162; clear HB; have HO162 := n0_; have HO165 := n1_; have HB := n2_; clear n0_ n1_ n2_; (try clear hb); (try clear hb2); (try clear hk); (try clear hi); (try clear ho0)))
    go_ret
    exact ⟨_, by first | rfl | (simp [errW_none, errW_some] <;> rfl) | (simp [*, errW_none, errW_some] <;> rfl), by (with_reducible repeat (first | apply Kd.R_alloc | apply Kd.R_drewN | apply Kd.R_drew)); exact Kd.R_mono HO165.out (fun _ hk => trivial), by repeat (first | (with_reducible first | exact HB.out | apply below_alloc | apply pw_below_drewN | apply below_drew1) | exact HB.out)⟩
  · rw [if_neg c5] at H
    have c5b0 : (t160 == 0) = false := beq_eq_false_iff_ne.mpr c5
    have c5b1 : (t160 != 0) = true := bne_iff_ne.mpr c5
    obtain rfl := Option.some.inj H
    go_enter Tryd.func85, Tryd.ntmps85
    go_wp2_with (first | ((with_reducible refine gate_callee (f := 152) rfl ?_); refine goesL_ (some 12) rfl rfl Tryd.func152 (by kernel_rfl) rfl #[.int .i64 a1, .slice A2 l2.length c2] rfl (by (try simp only [List.map_toArray, List.map_cons, List.map_nil]); first | done | rfl | (simp only [List.length_drop, List.length_take]; rfl)) ?_; (with_reducible refine (annalsref02_Text.calls k a1 _ _ l2 t159 t160 _ ?side1 ?side2 A4.out).mono ?_); (case side1 => repeat (first | exact HR2.out | (with_reducible refine Kd.C_alloc ?_ _) | (with_reducible refine Kd.C_drewN ?_ _) | (with_reducible refine Kd.C_drew ?_))); (case side2 => exact HC2.out); rintro e w10 ⟨v161, rfl, ho0, hb⟩; refine ⟨_, rfl, ?_⟩; have n0_ := Aside0.mk (Kd.R_lower ho0 (below_size (by repeat (first | (with_reducible first | exact HB.out | apply below_alloc | apply pw_below_drewN | apply below_drew1) | exact HB.out)))); have n1_ := Aside0.mk (below_step (by repeat (first | (with_reducible first | exact HB.out | apply below_alloc | apply pw_below_drewN | apply below_drew1) | exact HB.out)) hb); clear HB; have HO162 := n0_; have HB := n1_; clear n0_ n1_; (try clear hb); (try clear hb2); (try clear hk); (try clear hi); (try clear ho0)))
    go_ret
    exact ⟨_, by first | rfl | (simp [errW_none, errW_some] <;> rfl) | (simp [*, errW_none, errW_some] <;> rfl), by first | exact Kd.R_nil _ _ _ _ _ | exact Kd.N_nil _ _ _ _ _ | exact Kd.V_nil _ _ _ _ _ | exact Kd.Q_nil _ _ _ _ _ | exact Kd.S_nil _ _ _ _ _, by repeat (first | (with_reducible first | exact HB.out | apply below_alloc | apply pw_below_drewN | apply below_drew1) | exact HB.out)⟩

end Go.Proofs.YtbedgjjiinhpkaaDoor.P

-- Fannalsref02Number
namespace Go.Proofs.YtbedgjjiinhpkaaDoor.P
open Go.RowKit Go.Proofs.YtbedgjjiinhpkaaDoorW.PrintWords Go.Proofs.YtbedgjjiinhpkaaDoorW.PrintLast Go.Proofs.YtbedgjjiinhpkaaDoorW.PrintMore
attribute [local go_sem] max2_int min2_int max_two min_two max_three min_three max_four min_four   -- for this text's walks alone
set_option linter.unusedVariables false
set_option linter.unusedSimpArgs false

/-! ### annalsref02_Number: function 86 -/
def annalsref02_Number.l0 : Nat → Int → List Int → Int → Option (List Int)
  | 0, _, _, _ => none
  | k + 1, x0, x3, x4 => if x4 ≥ 0 then (if 0 ≤ x4 then (if x3.length < 140737488355328 then (annalsref02_Number.l0 k x0 (x3 ++ [(shr .u64 (IntKind.u64.wrap (x0)) x4) % 256]) (wrap64 (x4 - 8))) else (none)) else (none)) else (some x3)
def annalsref02_Number.f (k : Nat) (a0 : Int) : Option (List Int) := annalsref02_Number.l0 k a0 ([] : List Int) 56
theorem annalsref02_Number.mono_l : ∀ k, (∀ y0 y1 y2, LeO (annalsref02_Number.l0 k y0 y1 y2) (annalsref02_Number.l0 (k + 1) y0 y1 y2))
  | 0 => fun _ _ _ r h => by simp [annalsref02_Number.l0] at h
  | k + 1 => by
    have ih0 := annalsref02_Number.mono_l k
    · intro y0 y1 y2
      unfold annalsref02_Number.l0
      repeat' first
      | (with_reducible exact ih0 _ _ _)
      | (with_reducible exact LeO.refl _)
      | (with_reducible exact LeO.none _)
      | (with_reducible refine LeO.ite ?_ ?_)
      | (with_reducible refine LeO.bind ?_ (fun _ => ?_))
      | exact ih0 _ _ _
      | exact LeO.none _
      | refine LeO.ite ?_ ?_
      | refine LeO.bind ?_ (fun _ => ?_)
theorem annalsref02_Number.mono : ∀ a0 k, LeO (annalsref02_Number.f k a0) (annalsref02_Number.f (k + 1) a0) := by
  intro a0 k
  have ih0 := annalsref02_Number.mono_l k
  unfold annalsref02_Number.f
  repeat' first
      | (with_reducible exact ih0 _ _ _)
      | (with_reducible exact LeO.refl _)
      | (with_reducible exact LeO.none _)
      | (with_reducible refine LeO.ite ?_ ?_)
      | (with_reducible refine LeO.bind ?_ (fun _ => ?_))
      | exact ih0 _ _ _
      | exact LeO.none _
      | refine LeO.ite ?_ ?_
      | refine LeO.bind ?_ (fun _ => ?_)
set_option maxHeartbeats 8000000 in
set_option maxRecDepth 100000 in
theorem annalsref02_Number.calls (k : Nat) (a0 : Int) (r : List Int) (w : World) (h : annalsref02_Number.f k a0 = some r) :
    Calls Tryd.prog 86 #[.int .i64 a0] w fun e w' => ∃ v0_ : Value, e = .returned (v0_) ∧ Kd.R (Kd.int .u8) 5 w' w.heap.size (fun _ => True) v0_ r ∧ Below w.heap.size w w' := by
  have HB := Aside0.mk (Below.refl w.heap.size w)
  have H : (annalsref02_Number.l0 k a0 ([] : List Int) 56) = some r := h
  clear h
  have H' := Aside0.mk H
  clear H
  go_enter Tryd.func86, Tryd.ntmps86
  go_wp2
  go_loopg [3, 4] k (fun kq v3 v4 w' => ∃ (x3_1 : List Int) (x4_1 : Int), v4 = .int .i64 x4_1 ∧ Aside0 (annalsref02_Number.l0 kq a0 x3_1 x4_1 = some r) ∧ Aside0 (kq ≤ k) ∧ Aside0 (Kd.R (Kd.int .u8) 5 w' w.heap.size (fun _ => True) v3 x3_1) ∧ Aside0 (Below w.heap.size w w'))
  case atStart => exact ⟨(([] : List Int)), (56), (by first | rfl | (simp; done) | (simp [*]; done)), H', ⟨Nat.le_refl _⟩, ⟨by first | exact Kd.R_nil _ _ _ _ _ | exact Kd.N_nil _ _ _ _ _ | exact Kd.V_nil _ _ _ _ _ | exact Kd.Q_nil _ _ _ _ _ | exact Kd.S_nil _ _ _ _ _⟩, ⟨by repeat (first | (with_reducible first | exact HB.out | apply below_alloc | apply pw_below_drewN | apply below_drew1) | exact HB.out)⟩⟩
  case round =>
    clear H'
    obtain ⟨x3_1, x4_1, rfl, HA, HK1, HO_3, HB⟩ := hrel
    cases gk with
    | zero => exact absurd HA.out (by simp [annalsref02_Number.l0])
    | succ k1 =>
      have H := HA.out
      clear HA
      simp only [annalsref02_Number.l0] at H
      by_cases c2 : x4_1 ≥ 0
      · rw [if_pos c2] at H
        have c2b0 : decide (0 ≤ x4_1) = true := decide_eq_true c2
        clear c2
        by_cases c3 : 0 ≤ x4_1
        · rw [if_pos c3] at H
          have c3b0 := eq_true c3
          have c3b1 : decide (0 ≤ x4_1) = true := decide_eq_true c3
          clear c3
          obtain ⟨ji4, hji4⟩ : ∃ j_ : Int, (shr .u64 (IntKind.u64.wrap (a0)) x4_1) = j_ := ⟨_, rfl⟩
          replace H : (if x3_1.length < 140737488355328 then (annalsref02_Number.l0 k1 a0 (x3_1 ++ [(ji4) % 256]) (wrap64 (x4_1 - 8))) else (none)) = some r := by first | (rw [hji4] at H; exact H) | (simp only [hji4] at H ⊢; exact H)
          have hji4_ : ((IntKind.u64.wrap (a0)) / 2 ^ min x4_1.toNat 64) = ji4 := hji4
          have hji4z : x4_1 ≤ 64 → ((IntKind.u64.wrap (a0)) / 2 ^ x4_1.toNat) = ji4 := shr_small hji4
          by_cases c5 : x3_1.length < 140737488355328
          · rw [if_pos c5] at H
            have LMc5 := Aside0.mk c5
            clear c5
            obtain ⟨y166, hy166⟩ : ∃ y_ : List Int, y_ = (x3_1 ++ [(ji4) % 256]) := ⟨_, rfl⟩
            replace H : (annalsref02_Number.l0 k1 a0 y166 (wrap64 (x4_1 - 8))) = some r := by first | (rw [hy166]; with_reducible exact H) | (have H2_ := (Option.bind_some _ _).symm.trans H; rw [hy166]; with_reducible exact H2_) | (have H2_ := (Option.bind_some _ _).symm.trans H; with_reducible exact H2_) | with_reducible exact H | (rw [hy166]; exact H) | exact H
            have Ny166 := Aside0.mk hy166
            clear hy166
            have H' := Aside0.mk H
            clear H
            go_wp2_with (first | ((with_reducible refine gate_builtin (b := .append) (xs := #[.tmp 9, .tmp 15]) rfl ?_); at_builtin; refine Kd.R_append (Kd.int .u8) (w0 := w) w.heap.size rfl (.tmp 9) (.tmp 15) 33 5 (.int .u8 0) 1 rfl Tryd.underlying33 info5 rfl (by decide) (by omega) u3 x3_1 ((ji4) % 256) [.int .u8 ((ji4) % 256)] (fun _ => True) (fun _ => False) rfl rfl ?aP (fun _ hk => hk.elim) ?aF ?aO ?aB ?aS ?aL ?_; (case aP => exact rfl); (case aB => exact (by repeat (first | (with_reducible first | exact HB.out | apply below_alloc | apply pw_below_drewN | apply below_drew1) | exact HB.out))); (case aF => exact (fun _ _ => trivial)); (case aO => exact (by (with_reducible repeat (first | apply Kd.R_alloc | apply Kd.R_drewN | apply Kd.R_drew)); exact HO_3.out)); (case aS => exact (below_size (by repeat (first | (with_reducible first | exact HB.out | apply below_alloc | apply pw_below_drewN | apply below_drew1) | exact HB.out)))); (case aL => have := LMc5.out; omega); intro v167 w6 ho hb hg hat; rw [← Ny166.out] at ho; have n0_ := Aside0.mk (hb); have n1_ := Aside0.mk (ho); clear HB; clear HO_3; have HB := n0_; have HO168 := n1_; clear n0_ n1_; clear ho hb hg hat))
            go_roundg k1
            case measure => have := HK1.out; omega
            case rel => exact ⟨(y166), (wrap64 (x4_1 - 8)), (by first | rfl | (simp; done) | (simp [*]; done)), H', ⟨by have := HK1.out; omega⟩, ⟨by (with_reducible repeat (first | apply Kd.R_alloc | apply Kd.R_drewN | apply Kd.R_drew)); exact HO168.out⟩, ⟨by repeat (first | (with_reducible first | exact HB.out | apply below_alloc | apply pw_below_drewN | apply below_drew1) | exact HB.out)⟩⟩
          · rw [if_neg c5] at H
            exact absurd H (by simp)
        · rw [if_neg c3] at H
          exact absurd H (by simp)
      · rw [if_neg c2] at H
        have c2b0 : decide (0 ≤ x4_1) = false := decide_eq_false c2
        clear c2
        obtain rfl := Option.some.inj H
        go_wp2
        go_ret
        exact ⟨_, by first | rfl | (simp [errW_none, errW_some] <;> rfl) | (simp [*, errW_none, errW_some] <;> rfl), by (with_reducible repeat (first | apply Kd.R_alloc | apply Kd.R_drewN | apply Kd.R_drew)); exact HO_3.out, by repeat (first | (with_reducible first | exact HB.out | apply below_alloc | apply pw_below_drewN | apply below_drew1) | exact HB.out)⟩

end Go.Proofs.YtbedgjjiinhpkaaDoor.P

-- Fannalsref03First
namespace Go.Proofs.YtbedgjjiinhpkaaDoor.P
open Go.RowKit Go.Proofs.YtbedgjjiinhpkaaDoorW.PrintWords Go.Proofs.YtbedgjjiinhpkaaDoorW.PrintLast Go.Proofs.YtbedgjjiinhpkaaDoorW.PrintMore
attribute [local go_sem] max2_int min2_int max_two min_two max_three min_three max_four min_four   -- for this text's walks alone
set_option linter.unusedVariables false
set_option linter.unusedSimpArgs false

/-! ### annalsref03_First: function 88 -/
mutual
def annalsref03_First.l0 : Nat → List Int → Int → List Int → Int → Option (List Int)
  | 0, _, _, _, _ => none
  | k + 1, x0, x1, x5, x6 => if x6 < x1 then (annalsref03_First.j1 k x0 x1 x5 x6 (decide ((wrap64 (Int.tdiv x6 8)) < (x0.length : Int)))) else (annalsref03_First.j1 k x0 x1 x5 x6 false)
def annalsref03_First.j1 : Nat → List Int → Int → List Int → Int → Bool → Option (List Int)
  | 0, _, _, _, _, _ => none
  | k + 1, x0, x1, x5, x6, x17 => if x17 = true then (if 0 ≤ (wrap64 (Int.tdiv x6 8)) then (if (wrap64 (Int.tdiv x6 8)) < (x0.length : Int) then (if (wrap64 (x1 - x6)) < 8 then (if 0 ≤ (wrap64 (8 - (wrap64 (x1 - x6)))) then (if x5.length < 140737488355328 then (annalsref03_First.l0 k x0 x1 (x5 ++ [shl .u8 (shr .u8 (rd x0 (wrap64 (Int.tdiv x6 8))) (wrap64 (8 - (wrap64 (x1 - x6))))) (wrap64 (8 - (wrap64 (x1 - x6))))]) (wrap64 (x6 + 8))) else (none)) else (none)) else (if x5.length < 140737488355328 then (annalsref03_First.l0 k x0 x1 (x5 ++ [rd x0 (wrap64 (Int.tdiv x6 8))]) (wrap64 (x6 + 8))) else (none))) else (none)) else (none)) else (some x5)
end
def annalsref03_First.f (k : Nat) (l0 : List Int) (a1 : Int) : Option (List Int) := annalsref03_First.l0 k l0 a1 ([] : List Int) 0
theorem annalsref03_First.mono_l : ∀ k, (∀ y0 y1 y2 y3, LeO (annalsref03_First.l0 k y0 y1 y2 y3) (annalsref03_First.l0 (k + 1) y0 y1 y2 y3)) ∧ (∀ y0 y1 y2 y3 y4, LeO (annalsref03_First.j1 k y0 y1 y2 y3 y4) (annalsref03_First.j1 (k + 1) y0 y1 y2 y3 y4))
  | 0 => ⟨fun _ _ _ _ r h => by simp [annalsref03_First.l0] at h, fun _ _ _ _ _ r h => by simp [annalsref03_First.j1] at h⟩
  | k + 1 => by
    obtain ⟨ih0, ih1⟩ := annalsref03_First.mono_l k
    refine ⟨?_, ?_⟩
    · intro y0 y1 y2 y3
      unfold annalsref03_First.l0
      repeat' first
      | (with_reducible exact ih0 _ _ _ _)
      | (with_reducible exact ih1 _ _ _ _ _)
      | (with_reducible exact LeO.refl _)
      | (with_reducible exact LeO.none _)
      | (with_reducible refine LeO.ite ?_ ?_)
      | (with_reducible refine LeO.bind ?_ (fun _ => ?_))
      | exact ih0 _ _ _ _
      | exact ih1 _ _ _ _ _
      | exact LeO.none _
      | refine LeO.ite ?_ ?_
      | refine LeO.bind ?_ (fun _ => ?_)
    · intro y0 y1 y2 y3 y4
      unfold annalsref03_First.j1
      repeat' first
      | (with_reducible exact ih0 _ _ _ _)
      | (with_reducible exact ih1 _ _ _ _ _)
      | (with_reducible exact LeO.refl _)
      | (with_reducible exact LeO.none _)
      | (with_reducible refine LeO.ite ?_ ?_)
      | (with_reducible refine LeO.bind ?_ (fun _ => ?_))
      | exact ih0 _ _ _ _
      | exact ih1 _ _ _ _ _
      | exact LeO.none _
      | refine LeO.ite ?_ ?_
      | refine LeO.bind ?_ (fun _ => ?_)
theorem annalsref03_First.mono : ∀ a0 a1 k, LeO (annalsref03_First.f k a0 a1) (annalsref03_First.f (k + 1) a0 a1) := by
  intro a0 a1 k
  obtain ⟨ih0, ih1⟩ := annalsref03_First.mono_l k
  unfold annalsref03_First.f
  repeat' first
      | (with_reducible exact ih0 _ _ _ _)
      | (with_reducible exact ih1 _ _ _ _ _)
      | (with_reducible exact LeO.refl _)
      | (with_reducible exact LeO.none _)
      | (with_reducible refine LeO.ite ?_ ?_)
      | (with_reducible refine LeO.bind ?_ (fun _ => ?_))
      | exact ih0 _ _ _ _
      | exact ih1 _ _ _ _ _
      | exact LeO.none _
      | refine LeO.ite ?_ ?_
      | refine LeO.bind ?_ (fun _ => ?_)
set_option maxHeartbeats 8000000 in
set_option maxRecDepth 100000 in
theorem annalsref03_First.calls (k : Nat) (A0 : Option Addr) (c0 : Nat) (l0 : List Int) (a1 : Int) (r : List Int) (w : World) (hr0 : Kd.C (Kd.int .u8) w A0 l0.length l0) (hc0 : l0.length ≤ c0) (h : annalsref03_First.f k l0 a1 = some r) :
    Calls Tryd.prog 88 #[.slice A0 l0.length c0, .int .i64 a1] w fun e w' => ∃ v0_ : Value, e = .returned (v0_) ∧ Kd.R (Kd.int .u8) 5 w' w.heap.size (fun _ => True) v0_ r ∧ Below w.heap.size w w' := by
  have HR0 := Aside0.mk hr0
  have HC0 := Aside0.mk hc0
  clear hr0 hc0
  have HB := Aside0.mk (Below.refl w.heap.size w)
  have H : (annalsref03_First.l0 k l0 a1 ([] : List Int) 0) = some r := h
  clear h
  have H' := Aside0.mk H
  clear H
  go_enter Tryd.func88, Tryd.ntmps88
  go_wp2
  go_loopg [5, 6] k (fun kq v5 v6 w' => ∃ (x5_1 : List Int) (x6_1 : Int), v6 = .int .i64 x6_1 ∧ Aside0 (annalsref03_First.l0 kq l0 a1 x5_1 x6_1 = some r) ∧ Aside0 (kq ≤ k) ∧ Aside0 (Kd.R (Kd.int .u8) 5 w' w.heap.size (fun _ => True) v5 x5_1) ∧ Aside0 (Below w.heap.size w w'))
  case atStart => exact ⟨(([] : List Int)), (0), (by first | rfl | (simp; done) | (simp [*]; done)), H', ⟨Nat.le_refl _⟩, ⟨by first | exact Kd.R_nil _ _ _ _ _ | exact Kd.N_nil _ _ _ _ _ | exact Kd.V_nil _ _ _ _ _ | exact Kd.Q_nil _ _ _ _ _ | exact Kd.S_nil _ _ _ _ _⟩, ⟨by repeat (first | (with_reducible first | exact HB.out | apply below_alloc | apply pw_below_drewN | apply below_drew1) | exact HB.out)⟩⟩
  case round =>
    clear H'
    try clear p2
    obtain ⟨x5_1, x6_1, rfl, HA, HK1, HO_5, HB⟩ := hrel
    cases gk with
    | zero => exact absurd HA.out (by simp [annalsref03_First.l0])
    | succ k1 =>
      have H := HA.out
      clear HA
      simp only [annalsref03_First.l0] at H
      have HC3 := Aside0.mk H
      clear H
      go_upto_region 3 with (fail)
      go_cut [17] (fun v17 wc => ∃ (kq : Nat) (x17_2 : Bool), v17 = .bool x17_2 ∧ Aside0 (annalsref03_First.j1 kq l0 a1 x5_1 x6_1 x17_2 = some r) ∧ Aside0 (kq ≤ k1) ∧ Aside0 (Kd.R (Kd.int .u8) 5 wc w.heap.size (fun _ => True) u5 x5_1) ∧ Aside0 (Below w.heap.size w wc))
      case first =>
        have H := HC3.out
        clear HC3
        by_cases c4 : x6_1 < a1
        · rw [if_pos c4] at H
          have c4b0 : decide (x6_1 < a1) = true := decide_eq_true c4
          clear c4
          (first | rw [c4b0] | (simp only [i64_w, i32_w]; rw [c4b0]) | skip)
          have H' := Aside0.mk H
          clear H
          go_wp2
          go_meet
          case rel => exact ⟨_, (decide ((wrap64 (Int.tdiv x6_1 8)) < (l0.length : Int))), (by first | rfl | (simp; done) | (simp [*]; done)), H', ⟨by have := HK1.out; first | omega | exact Nat.le_refl _⟩, ⟨by (with_reducible repeat (first | apply Kd.R_alloc | apply Kd.R_drewN | apply Kd.R_drew)); exact HO_5.out⟩, ⟨by repeat (first | (with_reducible first | exact HB.out | apply below_alloc | apply pw_below_drewN | apply below_drew1) | exact HB.out)⟩⟩
        · rw [if_neg c4] at H
          have c4b0 : decide (x6_1 < a1) = false := decide_eq_false c4
          clear c4
          (first | rw [c4b0] | (simp only [i64_w, i32_w]; rw [c4b0]) | skip)
          have H' := Aside0.mk H
          clear H
          go_wp2
          go_meet
          case rel => exact ⟨_, (false), (by first | rfl | (simp; done) | (simp [*]; done)), H', ⟨by have := HK1.out; first | omega | exact Nat.le_refl _⟩, ⟨by (with_reducible repeat (first | apply Kd.R_alloc | apply Kd.R_drewN | apply Kd.R_drew)); exact HO_5.out⟩, ⟨by repeat (first | (with_reducible first | exact HB.out | apply below_alloc | apply pw_below_drewN | apply below_drew1) | exact HB.out)⟩⟩
      case rest =>
        clear HC3
        try clear p2
        try clear c4
        try clear c4b0
        try clear p2
        obtain ⟨kq, x17_2, rfl, HA, HJ2, HO_5, HB⟩ := hcut
        cases kq with
        | zero => exact absurd HA.out (by simp [annalsref03_First.j1])
        | succ kj2 =>
          have H := HA.out
          clear HA
          simp only [annalsref03_First.j1] at H
          by_cases c5 : x17_2 = true
          · subst c5
            have H1 : (if 0 ≤ (wrap64 (Int.tdiv x6_1 8)) then (if (wrap64 (Int.tdiv x6_1 8)) < (l0.length : Int) then (if (wrap64 (a1 - x6_1)) < 8 then (if 0 ≤ (wrap64 (8 - (wrap64 (a1 - x6_1)))) then (if x5_1.length < 140737488355328 then (annalsref03_First.l0 kj2 l0 a1 (x5_1 ++ [shl .u8 (shr .u8 (rd l0 (wrap64 (Int.tdiv x6_1 8))) (wrap64 (8 - (wrap64 (a1 - x6_1))))) (wrap64 (8 - (wrap64 (a1 - x6_1))))]) (wrap64 (x6_1 + 8))) else (none)) else (none)) else (if x5_1.length < 140737488355328 then (annalsref03_First.l0 kj2 l0 a1 (x5_1 ++ [rd l0 (wrap64 (Int.tdiv x6_1 8))]) (wrap64 (x6_1 + 8))) else (none))) else (none)) else (none)) = some r := by rw [if_pos rfl] at H; exact H
            clear H
            have H := H1
            clear H1
            obtain ⟨ji6, hji6⟩ : ∃ j_ : Int, (wrap64 (Int.tdiv x6_1 8)) = j_ := ⟨_, rfl⟩
            replace H : (if 0 ≤ (ji6) then (if (ji6) < (l0.length : Int) then (if (wrap64 (a1 - x6_1)) < 8 then (if 0 ≤ (wrap64 (8 - (wrap64 (a1 - x6_1)))) then (if x5_1.length < 140737488355328 then (annalsref03_First.l0 kj2 l0 a1 (x5_1 ++ [shl .u8 (shr .u8 (rd l0 (ji6)) (wrap64 (8 - (wrap64 (a1 - x6_1))))) (wrap64 (8 - (wrap64 (a1 - x6_1))))]) (wrap64 (x6_1 + 8))) else (none)) else (none)) else (if x5_1.length < 140737488355328 then (annalsref03_First.l0 kj2 l0 a1 (x5_1 ++ [rd l0 (ji6)]) (wrap64 (x6_1 + 8))) else (none))) else (none)) else (none)) = some r := by first | (rw [hji6] at H; exact H) | (simp only [hji6] at H ⊢; exact H)
            have hji6w : (IntKind.i64.wrap (Int.tdiv x6_1 8)) = ji6 := (i64_w _).trans hji6
            by_cases c7 : 0 ≤ (ji6)
            · rw [if_pos c7] at H
              have c7b0 : decide (0 ≤ (ji6)) = true := decide_eq_true c7
              clear c7
              by_cases c8 : (ji6) < (l0.length : Int)
              · rw [if_pos c8] at H
                have c8b0 : decide ((ji6) < (l0.length : Int)) = true := decide_eq_true c8
                clear c8
                by_cases c9 : (wrap64 (a1 - x6_1)) < 8
                · rw [if_pos c9] at H
                  have c9b0 : decide ((wrap64 (a1 - x6_1)) < 8) = true := decide_eq_true c9
                  clear c9
                  obtain ⟨ji10, hji10⟩ : ∃ j_ : Int, (wrap64 (8 - (wrap64 (a1 - x6_1)))) = j_ := ⟨_, rfl⟩
                  replace H : (if 0 ≤ (ji10) then (if x5_1.length < 140737488355328 then (annalsref03_First.l0 kj2 l0 a1 (x5_1 ++ [shl .u8 (shr .u8 (rd l0 (ji6)) (ji10)) (ji10)]) (wrap64 (x6_1 + 8))) else (none)) else (none)) = some r := by first | (rw [hji10] at H; exact H) | (simp only [hji10] at H ⊢; exact H)
                  have hji10w : (IntKind.i64.wrap (8 - (wrap64 (a1 - x6_1)))) = ji10 := (i64_w _).trans hji10
                  by_cases c11 : 0 ≤ (ji10)
                  · rw [if_pos c11] at H
                    have c11b0 := eq_true c11
                    have c11b1 : decide (0 ≤ (ji10)) = true := decide_eq_true c11
                    clear c11
                    obtain ⟨ji12, hji12⟩ : ∃ j_ : Int, (shr .u8 (rd l0 (ji6)) (ji10)) = j_ := ⟨_, rfl⟩
                    replace H : (if x5_1.length < 140737488355328 then (annalsref03_First.l0 kj2 l0 a1 (x5_1 ++ [shl .u8 (ji12) (ji10)]) (wrap64 (x6_1 + 8))) else (none)) = some r := by first | (rw [hji12] at H; exact H) | (simp only [hji12] at H ⊢; exact H)
                    have hji12_ : ((rd l0 (ji6)) / 2 ^ min (ji10).toNat 8) = ji12 := hji12
                    have hji12z : (ji10) ≤ 8 → ((rd l0 (ji6)) / 2 ^ (ji10).toNat) = ji12 := shr_small hji12
                    have c13b0 := eq_true (of_decide_eq_true (by first | (with_reducible assumption) | assumption) : 0 ≤ (ji10))
                    obtain ⟨ji14, hji14⟩ : ∃ j_ : Int, (shl .u8 (ji12) (ji10)) = j_ := ⟨_, rfl⟩
                    replace H : (if x5_1.length < 140737488355328 then (annalsref03_First.l0 kj2 l0 a1 (x5_1 ++ [ji14]) (wrap64 (x6_1 + 8))) else (none)) = some r := by first | (rw [hji14] at H; exact H) | (simp only [hji14] at H ⊢; exact H)
                    have hji14_ : (IntKind.u8.wrap ((ji12) * 2 ^ min (ji10).toNat 8)) = ji14 := hji14
                    have hji14z : (ji10) ≤ 8 → (IntKind.u8.wrap ((ji12) * 2 ^ (ji10).toNat)) = ji14 := shl_small hji14
                    by_cases c15 : x5_1.length < 140737488355328
                    · rw [if_pos c15] at H
                      have LMc15 := Aside0.mk c15
                      clear c15
                      obtain ⟨y194, hy194⟩ : ∃ y_ : List Int, y_ = (x5_1 ++ [ji14]) := ⟨_, rfl⟩
                      replace H : (annalsref03_First.l0 kj2 l0 a1 y194 (wrap64 (x6_1 + 8))) = some r := by first | (rw [hy194]; with_reducible exact H) | (have H2_ := (Option.bind_some _ _).symm.trans H; rw [hy194]; with_reducible exact H2_) | (have H2_ := (Option.bind_some _ _).symm.trans H; with_reducible exact H2_) | with_reducible exact H | (rw [hy194]; exact H) | exact H
                      have Ny194 := Aside0.mk hy194
                      clear hy194
                      have H' := Aside0.mk H
                      clear H
                      have p193 : 0 ≤ ((ji6) : Int) := of_decide_eq_true (by first | (with_reducible assumption) | assumption)
                      have q193 : (ji6) < (l0.length : Int) := of_decide_eq_true (by first | (with_reducible assumption) | assumption)
                      obtain ⟨ad193, e193, hx193_0⟩ := Kd.at_int HR0.out (ji6) p193 q193
                      cases e193
                      replace hx193_0 := (HB.out.cell (World.block_lt_of_cell? w _ hx193_0)).trans hx193_0
                      replace p193 := eq_true p193
                      replace q193 := eq_true q193
                      go_wp2_with (first | ((with_reducible refine gate_builtin (b := .append) (xs := #[.tmp 40, .tmp 42]) rfl ?_); (try (refine gate_guard (by rfl) ?_; dsimp only)); at_builtin; refine Kd.R_append (Kd.int .u8) (w0 := w) w.heap.size rfl (.tmp 40) (.tmp 42) 33 5 (.int .u8 0) 1 rfl Tryd.underlying33 info5 rfl (by decide) (by omega) u5 x5_1 ji14 [.int .u8 ji14] (fun _ => True) (fun _ => False) rfl rfl ?aP (fun _ hk => hk.elim) ?aF ?aO ?aB ?aS ?aL ?_; (case aP => exact rfl); (case aB => exact (by repeat (first | (with_reducible first | exact HB.out | apply below_alloc | apply pw_below_drewN | apply below_drew1) | exact HB.out))); (case aF => exact (fun _ _ => trivial)); (case aO => exact (by (with_reducible repeat (first | apply Kd.R_alloc | apply Kd.R_drewN | apply Kd.R_drew)); exact HO_5.out)); (case aS => exact (below_size (by repeat (first | (with_reducible first | exact HB.out | apply below_alloc | apply pw_below_drewN | apply below_drew1) | exact HB.out)))); (case aL => have := LMc15.out; omega); intro v195 w16 ho hb hg hat; rw [← Ny194.out] at ho; have n0_ := Aside0.mk (hb); have n1_ := Aside0.mk (ho); clear HB; clear HO_5; have HB := n0_; have HO196 := n1_; clear n0_ n1_; clear ho hb hg hat))
                      go_roundg kj2
                      case measure => have := HK1.out; have := HJ2.out; omega
                      case rel => exact ⟨(y194), (wrap64 (x6_1 + 8)), (by first | rfl | (simp; done) | (simp [*]; done)), H', ⟨by have := HK1.out; have := HJ2.out; omega⟩, ⟨by (with_reducible repeat (first | apply Kd.R_alloc | apply Kd.R_drewN | apply Kd.R_drew)); exact HO196.out⟩, ⟨by repeat (first | (with_reducible first | exact HB.out | apply below_alloc | apply pw_below_drewN | apply below_drew1) | exact HB.out)⟩⟩
                    · rw [if_neg c15] at H
                      exact absurd H (by simp)
                  · rw [if_neg c11] at H
                    exact absurd H (by simp)
                · rw [if_neg c9] at H
                  have c9b0 : decide ((wrap64 (a1 - x6_1)) < 8) = false := decide_eq_false c9
                  clear c9
                  by_cases c17 : x5_1.length < 140737488355328
                  · rw [if_pos c17] at H
                    have LMc17 := Aside0.mk c17
                    clear c17
                    obtain ⟨y197, hy197⟩ : ∃ y_ : List Int, y_ = (x5_1 ++ [rd l0 (ji6)]) := ⟨_, rfl⟩
                    replace H : (annalsref03_First.l0 kj2 l0 a1 y197 (wrap64 (x6_1 + 8))) = some r := by first | (rw [hy197]; with_reducible exact H) | (have H2_ := (Option.bind_some _ _).symm.trans H; rw [hy197]; with_reducible exact H2_) | (have H2_ := (Option.bind_some _ _).symm.trans H; with_reducible exact H2_) | with_reducible exact H | (rw [hy197]; exact H) | exact H
                    have Ny197 := Aside0.mk hy197
                    clear hy197
                    have H' := Aside0.mk H
                    clear H
                    have p193 : 0 ≤ ((ji6) : Int) := of_decide_eq_true (by first | (with_reducible assumption) | assumption)
                    have q193 : (ji6) < (l0.length : Int) := of_decide_eq_true (by first | (with_reducible assumption) | assumption)
                    obtain ⟨ad193, e193, hx193_0⟩ := Kd.at_int HR0.out (ji6) p193 q193
                    cases e193
                    replace hx193_0 := (HB.out.cell (World.block_lt_of_cell? w _ hx193_0)).trans hx193_0
                    replace p193 := eq_true p193
                    replace q193 := eq_true q193
                    go_wp2_with (first | ((with_reducible refine gate_builtin (b := .append) (xs := #[.tmp 40, .tmp 42]) rfl ?_); (try (refine gate_guard (by rfl) ?_; dsimp only)); at_builtin; refine Kd.R_append (Kd.int .u8) (w0 := w) w.heap.size rfl (.tmp 40) (.tmp 42) 33 5 (.int .u8 0) 1 rfl Tryd.underlying33 info5 rfl (by decide) (by omega) u5 x5_1 (rd l0 (ji6)) [.int .u8 (rd l0 (ji6))] (fun _ => True) (fun _ => False) rfl rfl ?aP (fun _ hk => hk.elim) ?aF ?aO ?aB ?aS ?aL ?_; (case aP => exact rfl); (case aB => exact (by repeat (first | (with_reducible first | exact HB.out | apply below_alloc | apply pw_below_drewN | apply below_drew1) | exact HB.out))); (case aF => exact (fun _ _ => trivial)); (case aO => exact (by (with_reducible repeat (first | apply Kd.R_alloc | apply Kd.R_drewN | apply Kd.R_drew)); exact HO_5.out)); (case aS => exact (below_size (by repeat (first | (with_reducible first | exact HB.out | apply below_alloc | apply pw_below_drewN | apply below_drew1) | exact HB.out)))); (case aL => have := LMc17.out; omega); intro v198 w18 ho hb hg hat; rw [← Ny197.out] at ho; have n0_ := Aside0.mk (hb); have n1_ := Aside0.mk (ho); clear HB; clear HO_5; have HB := n0_; have HO199 := n1_; clear n0_ n1_; clear ho hb hg hat))
                    go_roundg kj2
                    case measure => have := HK1.out; have := HJ2.out; omega
                    case rel => exact ⟨(y197), (wrap64 (x6_1 + 8)), (by first | rfl | (simp; done) | (simp [*]; done)), H', ⟨by have := HK1.out; have := HJ2.out; omega⟩, ⟨by (with_reducible repeat (first | apply Kd.R_alloc | apply Kd.R_drewN | apply Kd.R_drew)); exact HO199.out⟩, ⟨by repeat (first | (with_reducible first | exact HB.out | apply below_alloc | apply pw_below_drewN | apply below_drew1) | exact HB.out)⟩⟩
                  · rw [if_neg c17] at H
                    exact absurd H (by simp)
              · rw [if_neg c8] at H
                exact absurd H (by simp)
            · rw [if_neg c7] at H
              exact absurd H (by simp)
          · replace c5 := Bool.eq_false_iff.mpr c5
            subst c5
            have H1 : (some x5_1) = some r := by rw [if_neg (show ¬ (false = true) by decide)] at H; exact H
            clear H
            have H := H1
            clear H1
            obtain rfl := Option.some.inj H
            go_wp2
            go_ret
            exact ⟨_, by first | rfl | (simp [errW_none, errW_some] <;> rfl) | (simp [*, errW_none, errW_some] <;> rfl), by (with_reducible repeat (first | apply Kd.R_alloc | apply Kd.R_drewN | apply Kd.R_drew)); exact HO_5.out, by repeat (first | (with_reducible first | exact HB.out | apply below_alloc | apply pw_below_drewN | apply below_drew1) | exact HB.out)⟩

end Go.Proofs.YtbedgjjiinhpkaaDoor.P

-- PureText
set_option linter.unusedVariables false
set_option linter.unusedSimpArgs false
namespace Go.Proofs.YtbedgjjiinhpkaaDoor.P
open Go.RowKit Go.Proofs.YtbedgjjiinhpkaaDoorW.PrintWords Go.Proofs.YtbedgjjiinhpkaaDoorW.PrintLast Go.Proofs.YtbedgjjiinhpkaaDoorW.PrintMore

theorem wrap64_id (x : Int) (h : -9223372036854775808 ≤ x ∧ x ≤ 9223372036854775807) : wrap64 x = x := by unfold wrap64; omega

/-! ### numbers -/
/-- A number's eight bytes. -/
def num8 (n : Int) : List Int := [n / 72057594037927936 % 256, n / 281474976710656 % 256, n / 1099511627776 % 256, n / 4294967296 % 256, n / 16777216 % 256, n / 65536 % 256, n / 256 % 256, n % 256]
theorem num8_length (n : Int) : (num8 n).length = 8 := rfl
theorem num8_ok (n : Int) : BytesOk (num8 n) := by
  intro x hx
  simp only [num8, List.mem_cons, List.not_mem_nil, or_false] at hx
  rcases hx with h | h | h | h | h | h | h | h <;> omega
theorem div256 (n : Int) (a b : Int) (ha : 0 ≤ a) (h : a * 256 = b) : n / a / 256 = n / b := by
  rw [Int.ediv_ediv_of_nonneg ha, h]
theorem numBytes_eq (n : Int) : numBytes n = num8 n := by
  have e (i : Nat) (x : Int) (ys : List Int) : numRun (i + 1) x ys = numRun i (x / 256) (ys.set i (x % 256)) := rfl
  unfold numBytes
  rw [e 7, e 6, e 5, e 4, e 3, e 2, e 1, e 0]
  rw [div256 n 256 65536 (by decide) (by decide), div256 n 65536 16777216 (by decide) (by decide), div256 n 16777216 4294967296 (by decide) (by decide), div256 n 4294967296 1099511627776 (by decide) (by decide), div256 n 1099511627776 281474976710656 (by decide) (by decide), div256 n 281474976710656 72057594037927936 (by decide) (by decide)]
  rfl
theorem shr_u64 (n : Int) (i : Int) (d : Int) (h0 : 0 ≤ i) (h1 : i ≤ 56) (hd : (2 : Int) ^ i.toNat = d) : shr .u64 (IntKind.u64.wrap n) i = (n % 18446744073709551616) / d := by
  unfold shr
  rw [IntKind.wrap_u64, Nat.min_eq_left (by simp only [IntKind.bits]; omega), hd]
theorem rnum_step (k : Nat) (n : Int) (acc : List Int) (i d : Int) (h0 : 0 ≤ i) (h1 : i ≤ 56) (hd : (2 : Int) ^ i.toNat = d) (ha : acc.length < 100) :
    annalsref02_Number.l0 (k + 1) n acc i = annalsref02_Number.l0 k n (acc ++ [(n % 18446744073709551616) / d % 256]) (i - 8) := by
  simp only [annalsref02_Number.l0]
  rw [if_pos (by omega), if_pos (by omega), if_pos (by omega), shr_u64 n i d h0 h1 hd, wrap64_id _ (by omega)]
theorem rnum_f (n : Int) (k : Nat) (hk : 9 ≤ k) : annalsref02_Number.f k n = some (num8 n) := by
  obtain ⟨k, rfl⟩ : ∃ m, k = m + 9 := ⟨k - 9, by omega⟩
  unfold annalsref02_Number.f
  rw [rnum_step (k + 8) n _ 56 72057594037927936 (by omega) (by omega) (by decide) (by simp), rnum_step (k + 7) n _ (56 - 8) 281474976710656 (by omega) (by omega) (by decide) (by simp), rnum_step (k + 6) n _ (56 - 8 - 8) 1099511627776 (by omega) (by omega) (by decide) (by simp), rnum_step (k + 5) n _ (56 - 8 - 8 - 8) 4294967296 (by omega) (by omega) (by decide) (by simp), rnum_step (k + 4) n _ (56 - 8 - 8 - 8 - 8) 16777216 (by omega) (by omega) (by decide) (by simp), rnum_step (k + 3) n _ (56 - 8 - 8 - 8 - 8 - 8) 65536 (by omega) (by omega) (by decide) (by simp), rnum_step (k + 2) n _ (56 - 8 - 8 - 8 - 8 - 8 - 8) 256 (by omega) (by omega) (by decide) (by simp), rnum_step (k + 1) n _ (56 - 8 - 8 - 8 - 8 - 8 - 8 - 8) 1 (by omega) (by omega) (by decide) (by simp)]
  have hend : annalsref02_Number.l0 (k + 1) n (([] : List Int) ++ [n % 18446744073709551616 / 72057594037927936 % 256] ++ [n % 18446744073709551616 / 281474976710656 % 256] ++ [n % 18446744073709551616 / 1099511627776 % 256] ++ [n % 18446744073709551616 / 4294967296 % 256] ++ [n % 18446744073709551616 / 16777216 % 256] ++ [n % 18446744073709551616 / 65536 % 256] ++ [n % 18446744073709551616 / 256 % 256] ++ [n % 18446744073709551616 / 1 % 256]) (56 - 8 - 8 - 8 - 8 - 8 - 8 - 8 - 8) = some (([] : List Int) ++ [n % 18446744073709551616 / 72057594037927936 % 256] ++ [n % 18446744073709551616 / 281474976710656 % 256] ++ [n % 18446744073709551616 / 1099511627776 % 256] ++ [n % 18446744073709551616 / 4294967296 % 256] ++ [n % 18446744073709551616 / 16777216 % 256] ++ [n % 18446744073709551616 / 65536 % 256] ++ [n % 18446744073709551616 / 256 % 256] ++ [n % 18446744073709551616 / 1 % 256]) := by
    simp only [annalsref02_Number.l0]
    rw [if_neg (by omega)]
  rw [hend]
  simp only [List.nil_append, List.cons_append, num8]
  have m1 : n % 18446744073709551616 / 72057594037927936 % 256 = n / 72057594037927936 % 256 := by omega
  have m2 : n % 18446744073709551616 / 281474976710656 % 256 = n / 281474976710656 % 256 := by omega
  have m3 : n % 18446744073709551616 / 1099511627776 % 256 = n / 1099511627776 % 256 := by omega
  have m4 : n % 18446744073709551616 / 4294967296 % 256 = n / 4294967296 % 256 := by omega
  have m5 : n % 18446744073709551616 / 16777216 % 256 = n / 16777216 % 256 := by omega
  have m6 : n % 18446744073709551616 / 65536 % 256 = n / 65536 % 256 := by omega
  have m7 : n % 18446744073709551616 / 256 % 256 = n / 256 % 256 := by omega
  have m8 : n % 18446744073709551616 / 1 % 256 = n % 256 := by omega
  rw [m1, m2, m3, m4, m5, m6, m7, m8]

/-! ### texts -/
/-- A part with its length ahead. -/
def partB (p : List Int) : List Int := [(p.length : Int) / 256 % 256, (p.length : Int) % 256] ++ p
def textB (tag : Int) (parts : List (List Int)) : List Int := [tag] ++ parts.flatMap partB
def hashB (size tag : Int) (parts : List (List Int)) : List Int := if parts.any isLong = true then [] else (shaSum (textB tag parts)).take (mn (mx size 0) 32).toNat
theorem rd_L1_at (xs : List (List Int)) (i : Nat) (h : i < xs.length) : rd_L1 xs (i : Int) = xs[i] := by
  unfold rd_L1
  rw [Int.toNat_natCast, List.getD_eq_getElem?_getD, List.getElem?_eq_getElem h]
  rfl
theorem partB_length (p : List Int) : (partB p).length = p.length + 2 := by
  unfold partB
  simp
theorem flat_len (parts : List (List Int)) (h : ∀ p ∈ parts, p.length ≤ 65535) : (parts.flatMap partB).length ≤ 65537 * parts.length := by
  induction parts with
  | nil => simp
  | cons p ps ih =>
    have := ih (fun q hq => h q (List.mem_cons_of_mem _ hq))
    have h1 := h p List.mem_cons_self
    rw [List.flatMap_cons, List.length_append, List.length_cons, partB_length]
    omega
theorem not_long {parts : List (List Int)} (h : parts.any isLong = false) : ∀ p ∈ parts, p.length ≤ 65535 := by
  intro p hp
  have := List.any_eq_false.1 h p hp
  unfold isLong at this
  simp at this
  omega
theorem text_l0 (parts : List (List Int)) (hl : ∀ p ∈ parts, p.length ≤ 65535) (hn : parts.length ≤ 100000) : ∀ (d i k : Nat) (acc : List Int), i + d = parts.length → d < k → acc.length ≤ 65537 * i + 1 →
    texts_Text.l0 k acc parts (parts.length : Int) (i : Int) = some (acc ++ (parts.drop i).flatMap partB, 0) := by
  intro d
  induction d with
  | zero =>
    intro i k acc hi hk ha
    obtain ⟨k, rfl⟩ : ∃ m, k = m + 1 := ⟨k - 1, by omega⟩
    simp only [texts_Text.l0]
    rw [if_neg (by omega), List.drop_of_length_le (by omega)]
    simp
  | succ d ih =>
    intro i k acc hi hk ha
    obtain ⟨k, rfl⟩ : ∃ m, k = m + 1 := ⟨k - 1, by omega⟩
    have hlt : i < parts.length := by omega
    have h1 := hl parts[i] (List.getElem_mem hlt)
    simp only [texts_Text.l0]
    rw [if_pos (by omega), if_pos (by omega), if_pos (by omega), rd_L1_at _ _ hlt]
    simp only [Option.bind_some]
    rw [if_pos (by simp; omega), if_pos (by simp; omega), wrap64_id _ (by omega)]
    have := ih (i + 1) k (acc ++ [(parts[i].length : Int) / 256 % 256, (parts[i].length : Int) % 256] ++ parts[i]) (by omega) (by omega) (by simp; omega)
    rw [show ((i : Int) + 1) = ((i + 1 : Nat) : Int) by omega, this, List.drop_eq_getElem_cons hlt, List.flatMap_cons]
    unfold partB
    simp
theorem text_f (tag : Int) (parts : List (List Int)) (ht : 0 ≤ tag ∧ tag ≤ 255) (hn : parts.length ≤ 100000) (k : Nat) (hk : parts.length < k) :
    texts_Text.f k tag parts = some (if parts.any isLong = true then ([], 4) else (textB tag parts, 0)) := by
  unfold texts_Text.f
  rw [if_pos (by omega)]
  unfold slices_ContainsFunc_byte_byte.f
  simp only [Option.bind_some]
  cases h : parts.any isLong
  · rw [if_neg (by simp), if_neg (by simp)]
    have := text_l0 parts (not_long h) hn parts.length 0 k [tag % 256] (by omega) hk (by simp)
    rw [show ((0 : Nat) : Int) = 0 from rfl] at this
    rw [this, show tag % 256 = tag by omega]
    rfl
  · rw [if_pos rfl, if_pos rfl]
theorem textB_length (tag : Int) (parts : List (List Int)) (h : parts.any isLong = false) : (textB tag parts).length ≤ 65537 * parts.length + 1 := by
  have := flat_len parts (not_long h)
  unfold textB
  simp only [List.length_append, List.length_cons, List.length_nil]
  omega
theorem hash_f (size tag : Int) (parts : List (List Int)) (ht : 0 ≤ tag ∧ tag ≤ 255) (hn : parts.length ≤ 100000) (k : Nat) (hk : parts.length < k) :
    texts_Hash.f k size tag parts = some (hashB size tag parts) := by
  unfold texts_Hash.f hashB
  rw [text_f tag parts ht hn k hk]
  simp only [Option.bind_some]
  cases h : parts.any isLong
  · have hl := textB_length tag parts h
    simp only [Bool.false_eq_true, if_false, if_true]
    unfold sha_Cut.f
    rw [if_pos (by show (textB tag parts).length ≤ _; omega)]
    rfl
  · simp only [if_true]
    rw [if_neg (by decide)]
theorem rtext_l0 (parts : List (List Int)) (hn : parts.length ≤ 100000) : ∀ (d i k : Nat) (acc : List Int), i + d = parts.length → d < k → acc.length ≤ 65537 * i + 1 →
    annalsref02_Text.l0 k acc parts (parts.length : Int) (i : Int) = some (if (parts.drop i).any isLong = true then ([], 4) else (acc ++ (parts.drop i).flatMap partB, 0)) := by
  intro d
  induction d with
  | zero =>
    intro i k acc hi hk ha
    obtain ⟨k, rfl⟩ : ∃ m, k = m + 1 := ⟨k - 1, by omega⟩
    simp only [annalsref02_Text.l0]
    rw [if_neg (by omega), List.drop_of_length_le (by omega)]
    simp
  | succ d ih =>
    intro i k acc hi hk ha
    obtain ⟨k, rfl⟩ : ∃ m, k = m + 1 := ⟨k - 1, by omega⟩
    have hlt : i < parts.length := by omega
    simp only [annalsref02_Text.l0]
    rw [if_pos (by omega), if_pos (by omega), if_pos (by omega), rd_L1_at _ _ hlt, List.drop_eq_getElem_cons hlt, List.any_cons]
    by_cases hL : (parts[i].length : Int) > 65535
    · have h1 : isLong parts[i] = true := decide_eq_true hL
      rw [if_pos hL, h1, if_pos (by simp)]
    · have h1 : isLong parts[i] = false := decide_eq_false hL
      rw [if_neg hL, h1, Bool.false_or]
      simp only [Option.bind_some]
      rw [if_pos (by simp; omega), if_pos (by simp; omega), wrap64_id _ (by omega)]
      have := ih (i + 1) k (acc ++ [(parts[i].length : Int) / 256 % 256, (parts[i].length : Int) % 256] ++ parts[i]) (by omega) (by omega) (by simp; omega)
      rw [show ((i : Int) + 1) = ((i + 1 : Nat) : Int) by omega, this, List.flatMap_cons]
      unfold partB
      simp
theorem rtext_f (tag : Int) (parts : List (List Int)) (ht : 0 ≤ tag ∧ tag ≤ 255) (hn : parts.length ≤ 100000) (k : Nat) (hk : parts.length + 1 < k) :
    annalsref02_Text.f k tag parts = some (if parts.any isLong = true then ([], 4) else (textB tag parts, 0)) := by
  obtain ⟨k, rfl⟩ : ∃ m, k = m + 1 := ⟨k - 1, by omega⟩
  unfold annalsref02_Text.f
  rw [if_neg (by omega), decide_eq_false (by omega)]
  simp only [annalsref02_Text.j0]
  rw [if_neg (by simp)]
  have := rtext_l0 parts hn parts.length 0 k [tag % 256] (by omega) (by omega) (by simp)
  rw [show ((0 : Nat) : Int) = 0 from rfl] at this
  rw [this, show tag % 256 = tag by omega, List.drop_zero]
  rfl
def PartsOk (parts : List (List Int)) : Prop := ∀ p ∈ parts, BytesOk p
theorem textB_ok (tag : Int) (parts : List (List Int)) (ht : 0 ≤ tag ∧ tag ≤ 255) (hp : PartsOk parts) : BytesOk (textB tag parts) := by
  intro x hx
  unfold textB at hx
  rcases List.mem_append.1 hx with h | h
  · obtain rfl := List.mem_singleton.1 h
    exact ht
  · obtain ⟨p, hpm, h⟩ := List.mem_flatMap.1 h
    unfold partB at h
    rcases List.mem_append.1 h with h | h
    · simp only [List.mem_cons, List.not_mem_nil, or_false] at h
      rcases h with h | h <;> omega
    · exact hp p hpm x h
theorem cut_eq (a : Int) : mx 0 (mn a 32) = mn (mx a 0) 32 := by
  unfold mx mn
  split <;> split <;> (try split) <;> (try split) <;> omega
theorem refSum_length (bs : List Int) : (refSum bs).length = 32 := by
  unfold refSum
  rw [rout_length]
theorem rhash_f (size tag : Int) (parts : List (List Int)) (ht : 0 ≤ tag ∧ tag ≤ 255) (hp : PartsOk parts) (hn : parts.length ≤ 100000) (k : Nat) (hk : parts.length + 1 < k) :
    annalsref02_Hash.f k size tag parts = some (hashB size tag parts) := by
  unfold annalsref02_Hash.f hashB
  rw [rtext_f tag parts ht hn k hk]
  simp only [Option.bind_some]
  cases h : parts.any isLong
  · have hl := textB_length tag parts h
    simp only [Bool.false_eq_true, if_false, if_true]
    unfold annalsref01_Cut.f annalsref01_Sum.f
    rw [if_pos (by show (textB tag parts).length ≤ _; omega)]
    simp only [Option.bind_some]
    have h0 : 0 ≤ mx 0 (mn size 32) ∧ mx 0 (mn size 32) ≤ 32 := by
      unfold mx mn
      split <;> (try split) <;> (try split) <;> omega
    rw [if_pos h0.1, if_pos (by rw [refSum_length]; exact h0.2), cut_eq, ← sum_eq _ (textB_ok tag parts ht hp)]
    rfl
  · simp only [if_true]
    rw [if_neg (by decide)]

/-! ### first bits -/
theorem cut_byte : ∀ s : Fin 8, ∀ x : Fin 256, Go.bits .and .u8 (x.val : Int) (255 * 2 ^ s.val % 256) = (x.val : Int) / 2 ^ s.val * 2 ^ s.val % 256 := by decide +kernel
theorem shl_shr_u8 (x s : Int) (h0 : 0 ≤ s) (h1 : s < 8) (hx : 0 ≤ x ∧ x ≤ 255) : shl .u8 (shr .u8 x s) s = Go.bits .and .u8 x (255 * 2 ^ s.toNat % 256) := by
  have := cut_byte ⟨s.toNat, by omega⟩ ⟨x.toNat, by omega⟩
  simp only [Int.toNat_of_nonneg hx.1] at this
  rw [this]
  unfold shl shr
  rw [Nat.min_eq_left (by simp only [IntKind.bits]; omega)]
  rw [IntKind.wrap_u8]
theorem take_set_last (l : List Int) (m : Nat) (h : m < l.length) (y : Int) : (l.take (m + 1)).set m y = l.take m ++ [y] := by
  rw [List.take_succ_eq_append_getElem h, List.set_append_right _ _ (by rw [List.length_take]; omega), List.length_take, Nat.min_eq_left (by omega), Nat.sub_self]
  rfl
theorem rfirst_exit (k : Nat) (l : List Int) (a : Int) (acc : List Int) (i : Int) (h : a ≤ i ∨ 8 * (l.length : Int) ≤ i) (h0 : 0 ≤ i) (h1 : i ≤ 9223372036854775807) (hk : 2 ≤ k) : annalsref03_First.l0 k l a acc i = some acc := by
  obtain ⟨k, rfl⟩ : ∃ m, k = m + 2 := ⟨k - 2, by omega⟩
  simp only [annalsref03_First.l0]
  by_cases hi : i < a
  · rw [if_pos hi]
    have e : wrap64 (Int.tdiv i 8) = i / 8 := by rw [Int.tdiv_eq_ediv_of_nonneg h0]; exact wrap64_id _ (by omega)
    simp only [annalsref03_First.j1]
    rw [e, decide_eq_false (by omega), if_neg (by simp)]
  · rw [if_neg hi]
    simp only [annalsref03_First.j1]
    rw [if_neg (by simp)]
theorem rfirst_l0 (l : List Int) (hb : BytesOk l) (a : Int) (hl : l.length < 140737488355328) (ha : a ≤ 9223372036854775807) : ∀ (d m k : Nat), m + d = l.length → 2 * d + 2 ≤ k → (m = 0 ∨ 8 * (m : Int) ≤ a) →
    annalsref03_First.l0 k l a (l.take m) (8 * (m : Int)) = some (firstB l a) := by
  intro d
  induction d with
  | zero =>
    intro m k hm hk hma
    rw [rfirst_exit k l a _ _ (.inr (by omega)) (by omega) (by omega) (by omega), List.take_of_length_le (by omega)]
    unfold firstB
    by_cases h : 8 * (l.length : Int) ≤ a
    · rw [if_pos h]
    · have h0 : l.length = 0 := by omega
      obtain rfl := List.eq_nil_of_length_eq_zero h0
      rw [if_neg h]
      split
      · rfl
      · rename_i h2
        exfalso
        simp at h
        omega
  | succ d ih =>
    intro m k hm hk hma
    have hlt : m < l.length := by omega
    by_cases hi : 8 * (m : Int) < a
    · obtain ⟨k, rfl⟩ : ∃ j, k = j + 2 := ⟨k - 2, by omega⟩
      have e : wrap64 (Int.tdiv (8 * (m : Int)) 8) = (m : Int) := by rw [Int.tdiv_eq_ediv_of_nonneg (by omega), wrap64_id _ (by omega)]; omega
      have e2 : wrap64 (a - 8 * (m : Int)) = a - 8 * (m : Int) := wrap64_id _ (by omega)
      have e4 : wrap64 (8 * (m : Int) + 8) = 8 * ((m + 1 : Nat) : Int) := by rw [wrap64_id _ (by omega)]; omega
      have hrd : rd l (m : Int) = l[m] := by unfold rd; rw [Int.toNat_natCast, List.getD_eq_getElem?_getD, List.getElem?_eq_getElem hlt]; rfl
      simp only [annalsref03_First.l0, annalsref03_First.j1]
      rw [if_pos hi, e, decide_eq_true (by omega), if_pos rfl, if_pos (by omega), if_pos (by omega), e2, e4, hrd, List.length_take, Nat.min_eq_left (by omega)]
      by_cases h8 : a - 8 * (m : Int) < 8
      · have e3 : wrap64 (8 - (a - 8 * (m : Int))) = 8 - (a - 8 * (m : Int)) := wrap64_id _ (by omega)
        rw [if_pos h8, e3, if_pos (by omega), if_pos (by omega), shl_shr_u8 _ _ (by omega) (by omega) (hb _ (List.getElem_mem hlt)), rfirst_exit k l a _ _ (.inl (by omega)) (by omega) (by omega) (by omega)]
        unfold firstB
        rw [if_neg (by omega), if_neg (by omega)]
        unfold firstBits
        have hbb : bitBytes a.toNat = m + 1 := by unfold bitBytes; omega
        rw [if_neg (by omega), hbb, show m + 1 - 1 = m from rfl, take_set_last l m hlt]
        unfold cutByte
        have e5 : ((a.toNat % 8 : Nat) : Int) = a - 8 * (m : Int) := by omega
        have e6 : (l.take (m + 1)).getD m 0 = l[m] := by
          rw [List.getD_eq_getElem?_getD, List.getElem?_take, if_pos (by omega), List.getElem?_eq_getElem hlt]
          rfl
        rw [e5, e6]
      · rw [if_neg h8, if_pos (by omega), ← List.take_succ_eq_append_getElem hlt]
        exact ih (m + 1) k (by omega) (by omega) (.inr (by omega))
    · rw [rfirst_exit k l a _ _ (.inl (by omega)) (by omega) (by omega) (by omega)]
      unfold firstB
      rw [if_neg (by omega)]
      by_cases h1 : a < 1
      · have hm0 : m = 0 := by omega
        rw [if_pos h1, hm0]
        rfl
      · rw [if_neg h1]
        unfold firstBits
        have hbb : bitBytes a.toNat = m := by unfold bitBytes; omega
        rw [if_pos (by omega), hbb]
theorem rfirst_f (l : List Int) (hb : BytesOk l) (a : Int) (hl : l.length < 140737488355328) (ha : a ≤ 9223372036854775807) (k : Nat) (hk : 2 * l.length + 2 ≤ k) : annalsref03_First.f k l a = some (firstB l a) := by
  unfold annalsref03_First.f
  have := rfirst_l0 l hb a hl ha l.length 0 k (by omega) hk (.inl rfl)
  exact this
theorem firstB_length (l : List Int) (a : Int) : (firstB l a).length ≤ l.length := by
  unfold firstB firstBits
  split
  · omega
  · split
    · simp
    · split
      · rw [List.length_take]; omega
      · rw [List.length_set, List.length_take]; omega
theorem bits_u8_range (op : BinOp) (x y : Int) : 0 ≤ Go.bits op .u8 x y ∧ Go.bits op .u8 x y ≤ 255 := by
  unfold Go.bits
  rw [IntKind.wrap_u8]
  omega
theorem firstB_ok (l : List Int) (hb : BytesOk l) (a : Int) : BytesOk (firstB l a) := by
  unfold firstB firstBits
  have ht (m : Nat) : BytesOk (l.take m) := fun x hx => hb x (List.mem_of_mem_take hx)
  split
  · exact hb
  · split
    · intro x hx; cases hx
    · split
      · exact ht _
      · intro x hx
        rcases List.mem_or_eq_of_mem_set hx with h | rfl
        · exact ht _ x h
        · unfold cutByte
          exact bits_u8_range _ _ _

end Go.Proofs.YtbedgjjiinhpkaaDoor.P

-- Awake09
set_option linter.unusedVariables false
set_option linter.unusedSimpArgs false
namespace Go.Proofs.YtbedgjjiinhpkaaDoor.P
open Go.RowKit Go.Proofs.YtbedgjjiinhpkaaDoorW.PrintWords Go.Proofs.YtbedgjjiinhpkaaDoorW.PrintLast Go.Proofs.YtbedgjjiinhpkaaDoorW.PrintMore

theorem raw_cell {w : World} {base : Nat} {g n c : Nat} {cs : List (List Value)} (h : CellsR w base (.slice (some ⟨g, 0, none⟩) n c) cs) (k : Nat) {row : List Value} (hk : cs[k]? = some row) (j : Nat) {u : Value} (hj : row[j]? = some u) : w.cell? ⟨g, k * 11 + j, none⟩ = some u := by
  have hrd := Kd.R_reads' h
  have hkl := (List.getElem?_eq_some_iff.1 hk).1
  obtain ⟨ad, cc, e, hcl, hcK, hcc⟩ := Kd.C_get hrd.2.2 ([] : List Value) (k : Int) (by omega) (by omega)
  obtain rfl : (⟨g, 0, none⟩ : Addr) = ad := Option.some.inj e
  have h0 := hcK.1
  rw [Int.toNat_natCast, List.getD_eq_getElem?_getD, hk] at h0
  have h1 : cc = row := h0
  have := hcc j u (by rw [h1]; exact hj)
  rwa [Int.toNat_natCast, add_plain] at this

theorem at_raw {w : World} {p : Nat} {size room : Int} {g n c : Nat} {vf : Value} (h : ABlk w p size room (.slice (some ⟨g, 0, none⟩) n c) vf) (hs : size ≠ 0) (hn : n ≤ 9223372036854775807) (k : Nat) (hk : k < n) (hc : w.cell? ⟨g, k * 11, none⟩ = some (.bool true)) :
    Calls Tryd.prog 98 #[.pointer (some ⟨p, 0, none⟩), .int .i64 (k : Int)] w fun e w' => e = .returned (.pointer (some ⟨g, k * 11 + 1, none⟩)) ∧ w = w' := by
  have HBk := Aside0.mk h
  have HS := Aside0.mk hs
  have hk2 : decide (n ≤ k) = false := decide_eq_false (by omega)
  have hk3 : (k : Int) < (n : Int) := by omega
  have hk4 : decide ((k : Int) < 0) = false := decide_eq_false (by omega)
  have hk5 : 0 ≤ (k : Int) := by omega
  clear h hs
  go_enter Tryd.func98, Tryd.ntmps98
  go_wp2_with fail
  refine (none_calls HBk.out HS.out).mono ?_
  rintro e w' ⟨rfl, rfl⟩
  obtain ⟨c0, c1, c2, c3⟩ := HBk.out.cells
  go_wp2_with fail
  go_ret
  exact ⟨rfl, rfl⟩

set_option maxRecDepth 100000 in
theorem hash_at {w : World} {p base : Nat} {size room : Int} {g n c : Nat} {vf : Value} {cs : List (List Value)} {ok : Nat → Prop} (h : ABlk w p size room (.slice (some ⟨g, 0, none⟩) n c) vf) (hR : CellsR w base (.slice (some ⟨g, 0, none⟩) n c) cs) (hs : size ≠ 0) (k : Nat) {row : List Value} (hk : cs[k]? = some row) (h0 : row[0]? = some (.bool true))
    {B9 : Option Addr} {d9 : Nat} {lh : List Int} (h9 : row[10]? = some (.slice B9 lh.length d9)) (hV : BytesV w ok (.slice B9 lh.length d9) lh) (hl : lh.length ≤ 32) :
    Calls Tryd.prog 42 #[.pointer (some ⟨p, 0, none⟩), .int .i64 (k : Int)] w fun e w' => ∃ v : Value, e = .returned v ∧ Kd.R (Kd.int .u8) 5 w' w.heap.size (fun _ => True) v lh ∧ Below w.heap.size w w' := by
  have hkl := (List.getElem?_eq_some_iff.1 hk).1
  have hrd := Kd.R_reads' hR
  have hc0 := raw_cell hR k hk 0 h0
  have hc9 := raw_cell hR k hk 10 h9
  have hn : n ≤ 9223372036854775807 := by have := hrd.2.2.2.1; omega
  have hkn : k < n := by omega
  have HAT := Aside0.mk (at_raw h hs hn k hkn hc0)
  have HBk := Aside0.mk h
  have HS := Aside0.mk hs
  have HV := Aside0.mk hV
  have HL := Aside0.mk hl
  clear h hR hs hk h0 h9 hV hl hkl hrd hc0 hn hkn
  go_enter Tryd.func42, Tryd.ntmps42
  go_wp2_with fail
  refine (none_calls HBk.out HS.out).mono ?_
  rintro e w' ⟨rfl, rfl⟩
  go_wp2_with fail
  refine HAT.out.mono ?_
  rintro e w' ⟨rfl, rfl⟩
  go_wp2_with fail
  refine (slices_Clone_byte_byte.calls B9 d9 lh lh _ (Kd.V_reads' HV.out).2.2 (Kd.V_reads' HV.out).2.1 (if_pos (by have := HL.out; omega))).mono ?_
  rintro e1 w1 ⟨v, rfl, hR1, hB1⟩
  have HR1 := Aside0.mk hR1
  have HB1 := Aside0.mk hB1
  clear hR1 hB1 hc9
  go_wp2_with fail
  go_ret
  exact ⟨_, rfl, HR1.out, HB1.out⟩

theorem leaf_hash_f (k : Nat) (hk : 3 < k) (size : Int) (l1 l2 : List Int) (since : Int) : arena_LeafHash.f k size l1 l2 since = some (hashB size 1 [l1, l2, num8 since]) := by
  unfold arena_LeafHash.f texts_Number.f
  simp only [Option.bind_some]
  rw [numBytes_eq, hash_f size 1 [l1, l2, num8 since] (by omega) (by simp) k (by simpa using hk)]
  rfl
theorem awake_hash : (hashB 4 1 [[97], [], num8 1]).length = 4 := by
  unfold hashB
  rw [if_neg (by decide), List.length_take, shaSum_length]
  rfl

theorem lit_C {w : World} {g : Nat} (h : w.heap[g]? = some (.cells #[.int .u8 97] 5 (1, 2))) : Kd.C (Kd.int .u8) w (some ⟨g, 0, none⟩) 1 [97] := by
  refine Kd.C_of_reads (h1 := fun _ => rfl) (d := 0) ⟨rfl, by decide, fun _ => ⟨_, rfl, fun j hj => ?_⟩⟩
  obtain rfl : j = 0 := by omega
  simp [World.cell?, Addr.add, h]

def annalslaw09_awake.f : Option Bool := some true

set_option maxHeartbeats 4000000 in
set_option maxRecDepth 100000 in
theorem annalslaw09_awake.calls (r : Bool) (w : World) (hGS : GlobS w) (h : annalslaw09_awake.f = some r) :
    Calls Tryd.prog 34 #[] w fun e w' => e = .returned (.bool r) ∧ Below w.heap.size w w' := by
  obtain rfl := Option.some.inj h
  have HGS := Aside0.mk hGS
  clear h hGS
  have kc := fun (w : World) (C : Array Value) (n c : Nat) => Lib.run_convert_bytes_const (P := Tryd.prog) w 33 5 C n c Tryd.underlying33 Tryd.underlying5
  go_enter Tryd.func34, Tryd.ntmps34
  go_wp2_with fail
  refine (new_calls 4 5 w (by decide) (by decide) (by decide) (by decide)).mono ?_
  rintro e w1 ⟨rfl, hA1, hB1⟩
  have HA1 := Aside0.mk hA1
  have HB1 := Aside0.mk hB1
  clear hA1 hB1
  go_wp2_with fail
  obtain ⟨W2, hW2⟩ : ∃ W2, W2 = w1.alloc (.cells #[.int .u8 97] 5 (1, 2)) := ⟨_, rfl⟩
  rw [← hW2]
  have hB2 : Below w1.heap.size w1 W2 := by rw [hW2]; exact below_alloc (Below.refl _ _) _
  have hI : W2.heap[w1.heap.size]? = some (.cells #[.int .u8 97] 5 (1, 2)) := by rw [hW2]; exact heap_alloc_new w1 _
  have hV1 : BytesV W2 (fun k => w1.heap.size ≤ k) (.slice (some ⟨w1.heap.size, 0, none⟩) ([97] : List Int).length 1) [97] := Kd.V_mk (Nat.le_refl _) (fun W' hW' => lit_C ((hW' _ (Nat.le_refl _) (blk_lt hI)).trans hI))
  have hV2 : BytesV W2 (fun _ => False) (.slice none ([] : List Int).length 0) [] := Kd.V_nil _ _ _ _ _
  have hA2 := HA1.out.below hB2
  have hwp : w.heap.size < w1.heap.size := HA1.out.lt
  have hG2 : GlobS W2 := GlobS.of HGS.out (HB1.out.trans (hB2.mono HB1.out.size))
  have hB02 : Below w.heap.size w W2 := HB1.out.trans (hB2.mono HB1.out.size)
  have HB02 := Aside0.mk hB02
  have HH := Aside0.mk awake_hash
  clear hW2 hB02
  refine (leaf_grow (base := w.heap.size) (cs := []) (fun k => w1.heap.size ≤ k) (fun _ => False) (some ⟨w1.heap.size, 0, none⟩) none 1 0 [97] [] (hashB 4 1 [[97], [], num8 1]) 1 4 hA2 (Kd.R_nil _ _ _ _ _) (by decide) (Nat.le_refl _) (by decide) (by decide) hV1 hV2 (fun k hk => ⟨by omega, by simp [Value.ownBlock]⟩) (fun _ h => h.elim) (by decide) (by decide) (by decide) hG2 (leaf_hash_f 4 (by decide) 4 [97] [] 1)).mono ?_
  rintro e3 w3 ⟨rfl, v1, B1, d1, B2, d2, B9, d9, hA3, hR3, -, -, hV3, -, -, hBe3⟩
  rw [HH.out] at hR3
  obtain ⟨Av, cv, rfl⟩ := Kd.R_slice hR3
  have hB3 : Below w.heap.size w w3 := HB02.out.trans (hBe3 HB02.out.size)
  have hAv : ∃ g, Av = some ⟨g, 0, none⟩ := by
    have hrd := Kd.R_reads' hR3
    obtain ⟨ad, cc, rfl, hcl, hcK, hcc⟩ := Kd.C_get hrd.2.2 ([] : List Value) 0 (Int.le_refl _) (Int.natCast_pos.2 (Nat.succ_pos _))
    obtain ⟨g, rfl⟩ := Kd.R_head hR3
    exact ⟨g, rfl⟩
  obtain ⟨g, rfl⟩ := hAv
  have HA3 := Aside0.mk (show ABlk w3 w.heap.size 4 5 (.slice (some ⟨g, 0, none⟩) 1 cv) (.slice none 0 0) from hA3)
  have HR3 := Aside0.mk hR3
  have HV3 := Aside0.mk hV3
  have HB3 := Aside0.mk hB3
  clear hA3 hR3 hV3 hB3 hBe3 hV1 hV2 hA2 hI hB2 hwp hG2
  go_wp2_with fail
  refine (used_calls HA3.out (by decide) (by decide) (by decide)).mono ?_
  rintro e4 w4 ⟨rfl, ⟨m, rfl⟩⟩
  have hB4 : Below w3.heap.size w3 (w3.drewN m) := pw_below_drewN (Below.refl _ _) _
  have HA4 := Aside0.mk (HA3.out.below hB4)
  have HR4 := Aside0.mk (Kd.R_below HR3.out hB4)
  have HV4 := Aside0.mk (Kd.V_below HV3.out hB4)
  have HB4 := Aside0.mk (HB3.out.trans (hB4.mono HB3.out.size))
  clear hB4
  go_wp2_with fail
  refine (hash_at (lh := hashB 4 1 [[97], [], num8 1]) HA4.out HR4.out (by decide) 0 rfl rfl (by rw [HH.out]; rfl) HV4.out (by rw [HH.out]; decide)).mono ?_
  rintro e5 w5 ⟨v, rfl, hR5, hB5⟩
  have hl5 := (Kd.R_slice hR5)
  rw [HH.out] at hl5
  obtain ⟨A5, c5, rfl⟩ := hl5
  have HB5 := Aside0.mk (HB4.out.trans (hB5.mono HB4.out.size))
  clear hR5 hB5
  go_wp2_with fail
  go_ret
  exact ⟨rfl, HB5.out⟩

end Go.Proofs.YtbedgjjiinhpkaaDoor.P

-- Fannalsref09ForkHash
namespace Go.Proofs.YtbedgjjiinhpkaaDoor.P
open Go.RowKit Go.Proofs.YtbedgjjiinhpkaaDoorW.PrintWords Go.Proofs.YtbedgjjiinhpkaaDoorW.PrintLast Go.Proofs.YtbedgjjiinhpkaaDoorW.PrintMore
attribute [local go_sem] max2_int min2_int max_two min_two max_three min_three max_four min_four   -- for this text's walks alone
set_option linter.unusedVariables false
set_option linter.unusedSimpArgs false

/-! ### annalsref09_ForkHash: function 33 -/
def annalsref09_ForkHash.f (k : Nat) (a0 : Int) (a1 : Int) (l2 : List Int) (a3 : Int) (l4 : List Int) (l5 : List Int) : Option (List Int) := (annalsref02_Number.f k a1).bind fun t200 => ((annalsref03_First.f k l2 a1).bind fun t203 => ((annalsref02_Number.f k a3).bind fun t206 => ((annalsref02_Hash.f k a0 2 (([t200, t203, t206, l4, l5] : List (List Int)))).bind fun t212 => (some t212))))
theorem annalsref09_ForkHash.mono : ∀ a0 a1 a2 a3 a4 a5 k, LeO (annalsref09_ForkHash.f k a0 a1 a2 a3 a4 a5) (annalsref09_ForkHash.f (k + 1) a0 a1 a2 a3 a4 a5) := by
  intro a0 a1 a2 a3 a4 a5 k
  unfold annalsref09_ForkHash.f
  repeat' first
      | (with_reducible exact annalsref02_Hash.mono _ _ _ _)
      | (with_reducible exact annalsref02_Number.mono _ _)
      | (with_reducible exact annalsref03_First.mono _ _ _)
      | (with_reducible exact LeO.refl _)
      | (with_reducible exact LeO.none _)
      | (with_reducible refine LeO.ite ?_ ?_)
      | (with_reducible refine LeO.bind ?_ (fun _ => ?_))
      | exact annalsref02_Hash.mono _ _ _ _
      | exact annalsref02_Number.mono _ _
      | exact annalsref03_First.mono _ _ _
      | exact LeO.none _
      | refine LeO.ite ?_ ?_
      | refine LeO.bind ?_ (fun _ => ?_)
set_option maxHeartbeats 8000000 in
set_option maxRecDepth 100000 in
theorem annalsref09_ForkHash.calls (k : Nat) (a0 : Int) (a1 : Int) (A2 : Option Addr) (c2 : Nat) (l2 : List Int) (a3 : Int) (P4_ : Nat → Prop) (A4 : Option Addr) (c4 : Nat) (l4 : List Int) (P5_ : Nat → Prop) (A5 : Option Addr) (c5 : Nat) (l5 : List Int) (r : List Int) (w : World) (hr2 : Kd.C (Kd.int .u8) w A2 l2.length l2) (hc2 : l2.length ≤ c2) (hs4 : Kd.V (Kd.int .u8) 5 w w.heap.size (fun k_ => P4_ k_) (.slice A4 l4.length c4) l4) (hs5 : Kd.V (Kd.int .u8) 5 w w.heap.size (fun k_ => P5_ k_) (.slice A5 l5.length c5) l5) (h : annalsref09_ForkHash.f k a0 a1 l2 a3 l4 l5 = some r) :
    Calls Tryd.prog 33 #[.int .i64 a0, .int .i64 a1, .slice A2 l2.length c2, .int .i64 a3, .slice A4 l4.length c4, .slice A5 l5.length c5] w fun e w' => ∃ v0_ : Value, e = .returned (v0_) ∧ Kd.R (Kd.int .u8) 5 w' w.heap.size (fun k_ => (w.heap.size ≤ k_)) v0_ r ∧ Below w.heap.size w w' := by
  have HR2 := Aside0.mk hr2
  have HC2 := Aside0.mk hc2
  clear hr2 hc2
  have HO4 := Aside0.mk (show Kd.V (Kd.int .u8) 5 w w.heap.size (fun k_ => ((P4_ k_ ∨ P5_ k_) ∨ w.heap.size ≤ k_)) (.slice A4 l4.length c4) l4 from Kd.V_mono hs4 (fun k_ hk => .inl (.inl hk)))
  have HO5 := Aside0.mk (show Kd.V (Kd.int .u8) 5 w w.heap.size (fun k_ => ((P4_ k_ ∨ P5_ k_) ∨ w.heap.size ≤ k_)) (.slice A5 l5.length c5) l5 from Kd.V_mono hs5 (fun k_ hk => .inl (.inr hk)))
  have HB := Aside0.mk (Below.refl w.heap.size w)
  have H : ((annalsref02_Number.f k a1).bind fun t200 => ((annalsref03_First.f k l2 a1).bind fun t203 => ((annalsref02_Number.f k a3).bind fun t206 => ((annalsref02_Hash.f k a0 2 (([t200, t203, t206, l4, l5] : List (List Int)))).bind fun t212 => (some t212))))) = some r := h
  clear h
  replace H := Option.bind_eq_some_iff.mp H
  obtain ⟨t200, A70, H⟩ := H
  replace H : ((annalsref03_First.f k l2 a1).bind fun t203 => ((annalsref02_Number.f k a3).bind fun t206 => ((annalsref02_Hash.f k a0 2 (([t200, t203, t206, l4, l5] : List (List Int)))).bind fun t212 => (some t212)))) = some r := H
  have A7 := Aside0.mk A70
  clear A70
  replace H := Option.bind_eq_some_iff.mp H
  obtain ⟨t203, A80, H⟩ := H
  replace H : ((annalsref02_Number.f k a3).bind fun t206 => ((annalsref02_Hash.f k a0 2 (([t200, t203, t206, l4, l5] : List (List Int)))).bind fun t212 => (some t212))) = some r := H
  have A8 := Aside0.mk A80
  clear A80
  replace H := Option.bind_eq_some_iff.mp H
  obtain ⟨t206, A90, H⟩ := H
  replace H : ((annalsref02_Hash.f k a0 2 (([t200, t203, t206, l4, l5] : List (List Int)))).bind fun t212 => (some t212)) = some r := H
  have A9 := Aside0.mk A90
  clear A90
  obtain ⟨y209, hy209⟩ : ∃ y_ : List (List Int), y_ = (([t200, t203, t206, l4, l5] : List (List Int))) := ⟨_, rfl⟩
  replace H : ((annalsref02_Hash.f k a0 2 y209).bind fun t212 => (some t212)) = some r := by first | (rw [hy209]; with_reducible exact H) | (have H2_ := (Option.bind_some _ _).symm.trans H; rw [hy209]; with_reducible exact H2_) | (have H2_ := (Option.bind_some _ _).symm.trans H; with_reducible exact H2_) | with_reducible exact H | (rw [hy209]; exact H) | exact H
  have Ny209 := Aside0.mk hy209
  clear hy209
  replace H := Option.bind_eq_some_iff.mp H
  obtain ⟨t212, A100, H⟩ := H
  replace H : (some t212) = some r := H
  have A10 := Aside0.mk A100
  clear A100
  obtain rfl := Option.some.inj H
  go_enter Tryd.func33, Tryd.ntmps33
  go_wp2_with (first | ((with_reducible refine gate_callee (f := 86) rfl ?_); refine goesL_ (some 15) rfl rfl Tryd.func86 (by kernel_rfl) rfl #[.int .i64 a1] rfl (by (try simp only [List.map_toArray, List.map_cons, List.map_nil]); first | done | rfl | (simp only [List.length_drop, List.length_take]; rfl)) ?_; (with_reducible refine (annalsref02_Number.calls k a1 t200 _ A7.out).mono ?_); rintro e w11 ⟨v201, rfl, ho0, hb⟩; refine ⟨_, rfl, ?_⟩; have n0_ := Aside0.mk (Kd.V_elder' (by (with_reducible repeat (first | apply Kd.V_alloc | apply Kd.V_drewN | apply Kd.V_drew)); exact HO4.out) (Kd.R_base ho0) hb); have n1_ := Aside0.mk (Kd.V_elder' (by (with_reducible repeat (first | apply Kd.V_alloc | apply Kd.V_drewN | apply Kd.V_drew)); exact HO5.out) (Kd.R_base ho0) hb); have n2_ := Aside0.mk (Kd.R_lower (Kd.R_newM (M := fun k_ => (w.heap.size ≤ k_)) ho0 (below_size (by repeat (first | (with_reducible first | exact HB.out | apply below_alloc | apply pw_below_drewN | apply below_drew1) | exact HB.out))) (fun k_ h_ => h_)) (below_size (by repeat (first | (with_reducible first | exact HB.out | apply below_alloc | apply pw_below_drewN | apply below_drew1) | exact HB.out)))); have n3_ := Aside0.mk (below_step (by repeat (first | (with_reducible first | exact HB.out | apply below_alloc | apply pw_below_drewN | apply below_drew1) | exact HB.out)) hb); clear HO4; clear HO5; clear HB; have HO4 := n0_; have HO5 := n1_; have HO202 := n2_; have HB := n3_; clear n0_ n1_ n2_ n3_; (try clear hb); (try clear hb2); (try clear hk); (try clear hi); (try clear ho0)) | ((with_reducible refine gate_callee (f := 88) rfl ?_); refine goesL_ (some 18) rfl rfl Tryd.func88 (by kernel_rfl) rfl #[.slice A2 l2.length c2, .int .i64 a1] rfl (by (try simp only [List.map_toArray, List.map_cons, List.map_nil]); first | done | rfl | (simp only [List.length_drop, List.length_take]; rfl)) ?_; (with_reducible refine (annalsref03_First.calls k _ _ l2 a1 t203 _ ?side1 ?side2 A8.out).mono ?_); (case side1 => repeat (first | exact (Kd.C_below HR2.out HB.out) | (with_reducible refine Kd.C_alloc ?_ _) | (with_reducible refine Kd.C_drewN ?_ _) | (with_reducible refine Kd.C_drew ?_))); (case side2 => exact HC2.out); rintro e w12 ⟨v204, rfl, ho0, hb⟩; refine ⟨_, rfl, ?_⟩; have n0_ := Aside0.mk (Kd.V_elder' (by (with_reducible repeat (first | apply Kd.V_alloc | apply Kd.V_drewN | apply Kd.V_drew)); exact HO4.out) (Kd.R_base ho0) hb); have n1_ := Aside0.mk (Kd.V_elder' (by (with_reducible repeat (first | apply Kd.V_alloc | apply Kd.V_drewN | apply Kd.V_drew)); exact HO5.out) (Kd.R_base ho0) hb); have n2_ := Aside0.mk (Kd.R_elder' (by (with_reducible repeat (first | apply Kd.R_alloc | apply Kd.R_drewN | apply Kd.R_drew)); exact HO202.out) (Kd.R_base ho0) hb); have n3_ := Aside0.mk (Kd.R_lower (Kd.R_new' (Kd.R_newM (M := fun k_ => (w.heap.size ≤ k_)) ho0 (below_size (by repeat (first | (with_reducible first | exact HB.out | apply below_alloc | apply pw_below_drewN | apply below_drew1) | exact HB.out))) (fun k_ h_ => h_)) (Kd.R_lt (by (with_reducible repeat (first | apply Kd.R_alloc | apply Kd.R_drewN | apply Kd.R_drew)); exact HO202.out))) (below_size (by repeat (first | (with_reducible first | exact HB.out | apply below_alloc | apply pw_below_drewN | apply below_drew1) | exact HB.out)))); have n4_ := Aside0.mk (below_step (by repeat (first | (with_reducible first | exact HB.out | apply below_alloc | apply pw_below_drewN | apply below_drew1) | exact HB.out)) hb); clear HO4; clear HO5; clear HO202; clear HB; have HO4 := n0_; have HO5 := n1_; have HO202 := n2_; have HO205 := n3_; have HB := n4_; clear n0_ n1_ n2_ n3_ n4_; (try clear hb); (try clear hb2); (try clear hk); (try clear hi); (try clear ho0)) | ((with_reducible refine gate_callee (f := 86) rfl ?_); refine goesL_ (some 20) rfl rfl Tryd.func86 (by kernel_rfl) rfl #[.int .i64 a3] rfl (by (try simp only [List.map_toArray, List.map_cons, List.map_nil]); first | done | rfl | (simp only [List.length_drop, List.length_take]; rfl)) ?_; (with_reducible refine (annalsref02_Number.calls k a3 t206 _ A9.out).mono ?_); rintro e w13 ⟨v207, rfl, ho0, hb⟩; refine ⟨_, rfl, ?_⟩; have n0_ := Aside0.mk (Kd.V_elder' (by (with_reducible repeat (first | apply Kd.V_alloc | apply Kd.V_drewN | apply Kd.V_drew)); exact HO4.out) (Kd.R_base ho0) hb); have n1_ := Aside0.mk (Kd.V_elder' (by (with_reducible repeat (first | apply Kd.V_alloc | apply Kd.V_drewN | apply Kd.V_drew)); exact HO5.out) (Kd.R_base ho0) hb); have n2_ := Aside0.mk (Kd.R_elder' (by (with_reducible repeat (first | apply Kd.R_alloc | apply Kd.R_drewN | apply Kd.R_drew)); exact HO202.out) (Kd.R_base ho0) hb); have n3_ := Aside0.mk (Kd.R_elder' (by (with_reducible repeat (first | apply Kd.R_alloc | apply Kd.R_drewN | apply Kd.R_drew)); exact HO205.out) (Kd.R_base ho0) hb); have n4_ := Aside0.mk (Kd.R_lower (Kd.R_new' (Kd.R_new' (Kd.R_newM (M := fun k_ => (w.heap.size ≤ k_)) ho0 (below_size (by repeat (first | (with_reducible first | exact HB.out | apply below_alloc | apply pw_below_drewN | apply below_drew1) | exact HB.out))) (fun k_ h_ => h_)) (Kd.R_lt (by (with_reducible repeat (first | apply Kd.R_alloc | apply Kd.R_drewN | apply Kd.R_drew)); exact HO202.out))) (Kd.R_lt (by (with_reducible repeat (first | apply Kd.R_alloc | apply Kd.R_drewN | apply Kd.R_drew)); exact HO205.out))) (below_size (by repeat (first | (with_reducible first | exact HB.out | apply below_alloc | apply pw_below_drewN | apply below_drew1) | exact HB.out)))); have n5_ := Aside0.mk (below_step (by repeat (first | (with_reducible first | exact HB.out | apply below_alloc | apply pw_below_drewN | apply below_drew1) | exact HB.out)) hb); clear HO4; clear HO5; clear HO202; clear HO205; clear HB; have HO4 := n0_; have HO5 := n1_; have HO202 := n2_; have HO205 := n3_; have HO208 := n4_; have HB := n5_; clear n0_ n1_ n2_ n3_ n4_ n5_; (try clear hb); (try clear hb2); (try clear hk); (try clear hi); (try clear ho0); obtain ⟨Ao14, co14, eo14⟩ := Kd.R_slice HO202.out; subst eo14; obtain ⟨Ao15, co15, eo15⟩ := Kd.R_slice HO205.out; subst eo15; obtain ⟨Ao16, co16, eo16⟩ := Kd.R_slice HO208.out; subst eo16) | ((with_reducible refine gate_dst (N := 23) rfl ?_); refine Kd.N_lit (Kd.slice 5 (Kd.int .u8)) _ 33 ?hg (N' := 23) ?hd (xs := ([t200, t203, t206, l4, l5] : List (List Int))) (inner := [.slice Ao14 t200.length co14, .slice Ao15 t203.length co15, .slice Ao16 t206.length co16, .slice A4 l4.length c4, .slice A5 l5.length c5]) (ok := (fun k_ => ((P4_ k_ ∨ P5_ k_) ∨ w.heap.size ≤ k_))) (okp := (fun k_ => ((P4_ k_ ∨ P5_ k_) ∨ w.heap.size ≤ k_))) ?hr ?hp (fun _ hk => hk) ((show ∀ k_, w13.heap.size ≤ k_ → (fun k_ => ((P4_ k_ ∨ P5_ k_) ∨ w.heap.size ≤ k_)) k_ from fun k_ hk => (.inr (Nat.le_trans (below_size (by repeat (first | (with_reducible first | exact HB.out | apply below_alloc | apply pw_below_drewN | apply below_drew1) | exact HB.out))) hk))) _ (Nat.le_refl _)) (Below.refl _ _) (Nat.le_refl _) (by simp) ?_; (case hd => rfl); (case hg => rfl); (case hr => first | (go_simp; done) | (go_simp; rfl)); (case hp => exact (Reps.one (show Kd.FK (Kd.slice 5 (Kd.int .u8)) _ _ t200 [.slice Ao14 t200.length co14] from (Kd.FK_slice_mk (Kd.R_reads' (Kd.R_mono (ok' := (fun k_ => ((P4_ k_ ∨ P5_ k_) ∨ w.heap.size ≤ k_))) (HO202.out) (fun k_ hk => (.inr (hk.1.1.1))))).2.1 (Kd.R_F (Kd.R_mono (ok' := (fun k_ => ((P4_ k_ ∨ P5_ k_) ∨ w.heap.size ≤ k_))) (HO202.out) (fun k_ hk => (.inr (hk.1.1.1))))))) (Reps.one (show Kd.FK (Kd.slice 5 (Kd.int .u8)) _ _ t203 [.slice Ao15 t203.length co15] from (Kd.FK_slice_mk (Kd.R_reads' (Kd.R_mono (ok' := (fun k_ => ((P4_ k_ ∨ P5_ k_) ∨ w.heap.size ≤ k_))) (HO205.out) (fun k_ hk => (.inr (hk.1.1.1))))).2.1 (Kd.R_F (Kd.R_mono (ok' := (fun k_ => ((P4_ k_ ∨ P5_ k_) ∨ w.heap.size ≤ k_))) (HO205.out) (fun k_ hk => (.inr (hk.1.1.1))))))) (Reps.one (show Kd.FK (Kd.slice 5 (Kd.int .u8)) _ _ t206 [.slice Ao16 t206.length co16] from (Kd.FK_slice_mk (Kd.R_reads' (Kd.R_mono (ok' := (fun k_ => ((P4_ k_ ∨ P5_ k_) ∨ w.heap.size ≤ k_))) (HO208.out) (fun k_ hk => (.inr (hk.1.1.1))))).2.1 (Kd.R_F (Kd.R_mono (ok' := (fun k_ => ((P4_ k_ ∨ P5_ k_) ∨ w.heap.size ≤ k_))) (HO208.out) (fun k_ hk => (.inr (hk.1.1.1))))))) (Reps.one (show Kd.FK (Kd.slice 5 (Kd.int .u8)) _ _ l4 [.slice A4 l4.length c4] from (Kd.FK_slice_mk (Kd.V_reads' (Kd.V_mono (ok' := (fun k_ => ((P4_ k_ ∨ P5_ k_) ∨ w.heap.size ≤ k_))) (HO4.out) (fun k_ hk => hk.1.1.1))).2.1 (Kd.V_F (Kd.V_mono (ok' := (fun k_ => ((P4_ k_ ∨ P5_ k_) ∨ w.heap.size ≤ k_))) (HO4.out) (fun k_ hk => hk.1.1.1))))) (Reps.one (show Kd.FK (Kd.slice 5 (Kd.int .u8)) _ _ l5 [.slice A5 l5.length c5] from (Kd.FK_slice_mk (Kd.V_reads' (Kd.V_mono (ok' := (fun k_ => ((P4_ k_ ∨ P5_ k_) ∨ w.heap.size ≤ k_))) (HO5.out) (fun k_ hk => hk.1.1.1))).2.1 (Kd.V_F (Kd.V_mono (ok' := (fun k_ => ((P4_ k_ ∨ P5_ k_) ∨ w.heap.size ≤ k_))) (HO5.out) (fun k_ hk => hk.1.1.1))))) (Reps.none _ _))))))); intro v210 w17 ho18 hb hg_ hnew_; clear hg_ hnew_; (first | rw [← Ny209.out] at ho18 | (simp only [Int.reduceToNat] at ho18; rw [← Ny209.out] at ho18)); have n0_ := Aside0.mk (Kd.V_elder' (by (with_reducible repeat (first | apply Kd.V_alloc | apply Kd.V_drewN | apply Kd.V_drew)); exact HO4.out) (Kd.N_base ho18) hb); have n1_ := Aside0.mk (Kd.V_elder' (by (with_reducible repeat (first | apply Kd.V_alloc | apply Kd.V_drewN | apply Kd.V_drew)); exact HO5.out) (Kd.N_base ho18) hb); have n2_ := Aside0.mk (Kd.N_lower ho18 (below_size (by repeat (first | (with_reducible first | exact HB.out | apply below_alloc | apply pw_below_drewN | apply below_drew1) | exact HB.out)))); have n3_ := Aside0.mk (below_step (by repeat (first | (with_reducible first | exact HB.out | apply below_alloc | apply pw_below_drewN | apply below_drew1) | exact HB.out)) hb); clear HO4; clear HO5; clear HB; clear HO202; clear HO205; clear HO208; have HO4 := n0_; have HO5 := n1_; have HO211 := n2_; have HB := n3_; clear n0_ n1_ n2_ n3_; clear hb ho18; obtain ⟨Ao19, co19, eo19⟩ := Kd.N_slice HO211.out; subst eo19) | ((with_reducible refine gate_callee (f := 85) rfl ?_); refine goesL_ (some 24) rfl rfl Tryd.func85 (by kernel_rfl) rfl #[.int .i64 a0, .int .i64 2, .slice Ao19 y209.length co19] rfl (by (try simp only [List.map_toArray, List.map_cons, List.map_nil]); first | done | rfl | (simp only [List.length_drop, List.length_take]; rfl)) ?_; (with_reducible refine (annalsref02_Hash.calls k a0 2 _ _ y209 t212 _ ?side1 ?side2 A10.out).mono ?_); (case side1 => repeat (first | exact (Kd.N_reads' HO211.out).2.2 | (with_reducible refine Kd.C_alloc ?_ _) | (with_reducible refine Kd.C_drewN ?_ _) | (with_reducible refine Kd.C_drew ?_))); (case side2 => exact (Kd.N_reads' HO211.out).2.1); rintro e w20 ⟨v213, rfl, ho0, hb⟩; refine ⟨_, rfl, ?_⟩; have n0_ := Aside0.mk (Kd.V_elder' (by (with_reducible repeat (first | apply Kd.V_alloc | apply Kd.V_drewN | apply Kd.V_drew)); exact HO4.out) (Kd.R_base ho0) hb); have n1_ := Aside0.mk (Kd.V_elder' (by (with_reducible repeat (first | apply Kd.V_alloc | apply Kd.V_drewN | apply Kd.V_drew)); exact HO5.out) (Kd.R_base ho0) hb); have n2_ := Aside0.mk (Kd.N_elder' (by (with_reducible repeat (first | apply Kd.N_alloc | apply Kd.N_drewN | apply Kd.N_drew)); exact HO211.out) (Kd.R_base ho0) hb); have n3_ := Aside0.mk (Kd.R_lower (Kd.R_newM (M := fun k_ => (w.heap.size ≤ k_)) ho0 (below_size (by repeat (first | (with_reducible first | exact HB.out | apply below_alloc | apply pw_below_drewN | apply below_drew1) | exact HB.out))) (fun k_ h_ => h_)) (below_size (by repeat (first | (with_reducible first | exact HB.out | apply below_alloc | apply pw_below_drewN | apply below_drew1) | exact HB.out)))); have n4_ := Aside0.mk (below_step (by repeat (first | (with_reducible first | exact HB.out | apply below_alloc | apply pw_below_drewN | apply below_drew1) | exact HB.out)) hb); clear HO4; clear HO5; clear HO211; clear HB; have HO4 := n0_; have HO5 := n1_; have HO211 := n2_; have HO214 := n3_; have HB := n4_; clear n0_ n1_ n2_ n3_ n4_; (try clear hb); (try clear hb2); (try clear hk); (try clear hi); (try clear ho0)))
  go_ret
  exact ⟨_, by first | rfl | (simp [errW_none, errW_some] <;> rfl) | (simp [*, errW_none, errW_some] <;> rfl), by (with_reducible repeat (first | apply Kd.R_alloc | apply Kd.R_drewN | apply Kd.R_drew)); exact Kd.R_mono HO214.out (fun _ hk => hk.1), by repeat (first | (with_reducible first | exact HB.out | apply below_alloc | apply pw_below_drewN | apply below_drew1) | exact HB.out)⟩

end Go.Proofs.YtbedgjjiinhpkaaDoor.P
