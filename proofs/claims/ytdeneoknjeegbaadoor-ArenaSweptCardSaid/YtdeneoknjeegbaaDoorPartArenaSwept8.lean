/- Lemmas of this claim, part 8. -/
import Derived.Test.YtdeneoknjeegbaaDoorPartArenaSwept5
import Derived.Test.YtdeneoknjeegbaaDoorPartArenaSwept7
import Derived.Test.YtdeneoknjeegbaaDoorPartArenaSwept2
section
set_option linter.unusedVariables false
set_option linter.unusedSimpArgs false
namespace Go.Proofs.YtdeneoknjeegbaaDoor.P
open Go.RowKit Go.Proofs.YtdeneoknjeegbaaDoorW.PrintWords Go.Proofs.YtdeneoknjeegbaaDoorW.PrintLast Go.Proofs.YtdeneoknjeegbaaDoorW.PrintMore
theorem wrap_u32 (n : Int) : IntKind.u32.wrap n = n % 4294967296 := IntKind.wrap_u32 n
def W32 (x : Int) : Prop := 0 ≤ x ∧ x < 4294967296
def B (x : Int) : BitVec 32 := BitVec.ofInt 32 x
theorem B_toNat (x : Int) : (B x).toNat = (x % 4294967296).toNat := by
  unfold B; rw [BitVec.toNat_ofInt]; rfl
theorem B_inj {x y : Int} (hx : W32 x) (hy : W32 y) (h : B x = B y) : x = y := by
  have := congrArg BitVec.toNat h
  rw [B_toNat, B_toNat] at this
  unfold W32 at hx hy; omega
theorem B_of (v : BitVec 32) : B ((v.toNat : Int) % 4294967296) = v := by
  apply BitVec.eq_of_toNat_eq
  rw [B_toNat]
  have := v.isLt
  omega
theorem bits_W32 (op : BinOp) (x y : Int) : W32 (Go.bits op .u32 x y) := by
  unfold Go.bits W32
  rw [wrap_u32]
  omega
theorem B_xor (x y : Int) : B (Go.bits .xor .u32 x y) = B x ^^^ B y := by
  unfold Go.bits; rw [wrap_u32]; exact B_of _
theorem B_and (x y : Int) : B (Go.bits .and .u32 x y) = B x &&& B y := by
  unfold Go.bits; rw [wrap_u32]; exact B_of _
theorem B_or (x y : Int) : B (Go.bits .or .u32 x y) = B x ||| B y := by
  unfold Go.bits; rw [wrap_u32]; exact B_of _
theorem B_max : B IntKind.u32.max = BitVec.allOnes 32 := by decide
theorem choice_eq (e f g : Int) : Go.bits .xor .u32 (Go.bits .and .u32 e (Go.bits .xor .u32 f g)) g = Go.bits .xor .u32 (Go.bits .and .u32 e f) (Go.bits .and .u32 (Go.bits .xor .u32 IntKind.u32.max e) g) := by
  apply B_inj (bits_W32 _ _ _) (bits_W32 _ _ _)
  simp only [B_xor, B_and, B_max]
  ext i hi
  simp only [BitVec.getElem_xor, BitVec.getElem_and, BitVec.getElem_allOnes]
  cases (B e)[i] <;> cases (B f)[i] <;> cases (B g)[i] <;> rfl
theorem most_eq (a b c : Int) : Go.bits .or .u32 (Go.bits .and .u32 a (Go.bits .or .u32 b c)) (Go.bits .and .u32 b c) = Go.bits .xor .u32 (Go.bits .xor .u32 (Go.bits .and .u32 a b) (Go.bits .and .u32 a c)) (Go.bits .and .u32 b c) := by
  apply B_inj (bits_W32 _ _ _) (bits_W32 _ _ _)
  simp only [B_xor, B_and, B_or]
  ext i hi
  simp only [BitVec.getElem_xor, BitVec.getElem_and, BitVec.getElem_or]
  cases (B a)[i] <;> cases (B b)[i] <;> cases (B c)[i] <;> rfl
theorem bits_or_comm (x y : Int) : Go.bits .or .u32 x y = Go.bits .or .u32 y x := by
  apply B_inj (bits_W32 _ _ _) (bits_W32 _ _ _)
  simp only [B_or]
  exact BitVec.or_comm _ _
theorem and31 (a : Int) (h0 : 0 ≤ a) (h1 : a < 32) : Go.bits .and .u64 (IntKind.u64.wrap a) 31 = a := by
  have e : IntKind.u64.wrap a = a := by rw [IntKind.wrap_u64]; omega
  rw [e]
  unfold Go.bits
  have ha : (BitVec.ofInt IntKind.u64.bits a &&& BitVec.ofInt IntKind.u64.bits 31).toNat = a.toNat := by
    have h7 : BitVec.ofInt IntKind.u64.bits 31 = BitVec.ofNat 64 31 := rfl
    rw [h7]
    have h1 : (BitVec.ofInt 64 a).toNat = (a % 18446744073709551616).toNat := by rw [BitVec.toNat_ofInt]; rfl
    show ((BitVec.ofInt 64 a) &&& BitVec.ofNat 64 31).toNat = _
    rw [BitVec.toNat_and, h1, BitVec.toNat_ofNat]
    have h2 := Nat.and_two_pow_sub_one_eq_mod (a % 18446744073709551616).toNat 5
    have h3 : (31 % 2 ^ 64 : Nat) = 2 ^ 5 - 1 := by decide
    rw [h3, h2]
    omega
  simp only [ha]
  rw [IntKind.wrap_u64]
  omega
theorem rot_eq (x a : Int) (h : 0 < a ∧ a < 32) : bits_RotateLeft32.f x (wrap64 (32 - a)) = some (Go.bits .or .u32 (shl .u32 x (32 - a)) (shr .u32 x a)) := by
  unfold bits_RotateLeft32.f
  have e : wrap64 (32 - a) = 32 - a := by unfold wrap64; omega
  have e2 : IntKind.u64.wrap (32 - (32 - a)) = a := by rw [IntKind.wrap_u64]; omega
  rw [e, and31 _ (by omega) (by omega), e2, if_pos (by omega), if_pos (by omega)]
theorem right_eq (x a : Int) (h : 0 < a ∧ a < 32) : (annalsref01_right.f x a).getD 0 = Go.bits .or .u32 (shl .u32 x (32 - a)) (shr .u32 x a) := by
  unfold annalsref01_right.f
  have e : wrap64 (32 - a) = 32 - a := by unfold wrap64; omega
  rw [e, if_pos (by omega), if_pos (by omega), bits_or_comm]
  rfl
theorem sigma_R (x a b c : Int) (ha : 0 < a ∧ a < 32) (hb : 0 < b ∧ b < 32) (hc : 0 < c ∧ c < 32) : (sha_sigma.f x a b c).getD 0 = Go.bits .xor .u32 (Go.bits .xor .u32 ((annalsref01_right.f x a).getD 0) ((annalsref01_right.f x b).getD 0)) ((annalsref01_right.f x c).getD 0) := by
  unfold sha_sigma.f
  rw [rot_eq x a ha, rot_eq x b hb, rot_eq x c hc, right_eq x a ha, right_eq x b hb, right_eq x c hc]
  rfl
theorem gamma_R (x a b c : Int) (ha : 0 < a ∧ a < 32) (hb : 0 < b ∧ b < 32) (hc : 0 ≤ c) : (sha_gamma.f x a b c).getD 0 = Go.bits .xor .u32 (Go.bits .xor .u32 ((annalsref01_right.f x a).getD 0) ((annalsref01_right.f x b).getD 0)) (shr .u32 x c) := by
  unfold sha_gamma.f
  rw [rot_eq x a ha, rot_eq x b hb, right_eq x a ha, right_eq x b hb]
  simp only [Option.bind_some]
  rw [if_pos hc]
  rfl
theorem gamma_R10 (x : Int) : (sha_gamma.f x 17 19 10).getD 0 = Go.bits .xor .u32 (Go.bits .xor .u32 ((annalsref01_right.f x 17).getD 0) ((annalsref01_right.f x 19).getD 0)) (x / 1024) := gamma_R x 17 19 10 (by omega) (by omega) (by omega)
theorem gamma_R3 (x : Int) : (sha_gamma.f x 7 18 3).getD 0 = Go.bits .xor .u32 (Go.bits .xor .u32 ((annalsref01_right.f x 7).getD 0) ((annalsref01_right.f x 18).getD 0)) (x / 8) := gamma_R x 7 18 3 (by omega) (by omega) (by omega)
def BytesOk (bs : List Int) : Prop := ∀ x ∈ bs, 0 ≤ x ∧ x ≤ 255
theorem rword_eq (ts : List Int) (h : 4 ≤ ts.length) (hb : BytesOk ts) : rword ts = ((ts.getD 0 0 * 256 + ts.getD 1 0) * 256 + ts.getD 2 0) * 256 + ts.getD 3 0 := by
  unfold rword annalsref01_word.f
  rw [if_pos (by omega), if_pos (by omega), if_pos (by omega), if_pos (by omega), Option.getD_some]
  have g (j : Nat) : 0 ≤ ts.getD j 0 ∧ ts.getD j 0 ≤ 255 := by
    rw [List.getD_eq_getElem?_getD]
    by_cases hj : j < ts.length
    · rw [List.getElem?_eq_getElem hj]; exact hb _ (List.getElem_mem hj)
    · rw [List.getElem?_eq_none (by omega)]; simp
  have g0 := g 0
  have g1 := g 1
  have g2 := g 2
  have g3 := g 3
  unfold rd
  simp only [Int.toNat_zero, Int.toNat_one, show (2 : Int).toNat = 2 from rfl, show (3 : Int).toNat = 3 from rfl]
  omega
theorem round_eq (s : Sums) (add wi : Int) : s.round add wi = s.rround ((add + wi) % 4294967296) := by
  unfold Sums.round Sums.rround
  dsimp only
  rw [sigma_R s.e 6 11 25 (by omega) (by omega) (by omega), sigma_R s.a 2 13 22 (by omega) (by omega) (by omega), choice_eq, most_eq]
  congr 1 <;> omega
theorem or_bytes (x b : Int) (h0 : 0 ≤ x) (h1 : x < 16777216) (b0 : 0 ≤ b) (b1 : b ≤ 255) : Go.bits .or .u32 (x * 256 % 4294967296) (b % 4294967296) = x * 256 + b := by
  have e1 : x * 256 % 4294967296 = x * 256 := by omega
  have e2 : b % 4294967296 = b := by omega
  rw [e1, e2]
  unfold Go.bits
  rw [wrap_u32]
  obtain ⟨n, rfl⟩ : ∃ n : Nat, x = n := ⟨x.toNat, by omega⟩
  obtain ⟨m, rfl⟩ : ∃ n : Nat, b = n := ⟨b.toNat, by omega⟩
  have hn : (BitVec.ofInt IntKind.u32.bits ((n : Int) * 256)).toNat = n * 2 ^ 8 := by
    show (BitVec.ofInt 32 ((n : Int) * 256)).toNat = _
    rw [BitVec.toNat_ofInt]
    omega
  have hm : (BitVec.ofInt IntKind.u32.bits (m : Int)).toNat = m := by
    show (BitVec.ofInt 32 (m : Int)).toNat = _
    rw [BitVec.toNat_ofInt]
    omega
  simp only [BitVec.toNat_or, hn, hm]
  have h3 : n * 2 ^ 8 ||| m = n * 2 ^ 8 + m := by
    rw [Nat.mul_comm]
    exact (Nat.two_pow_add_eq_or_of_lt (by omega) n).symm
  rw [h3]
  omega
theorem getD_set_self (xs : List Int) (i : Nat) (x : Int) (h : i < xs.length) : (xs.set i x).getD i 0 = x := by
  rw [List.getD_eq_getElem?_getD, List.getElem?_set_self h]; rfl
theorem getD_set_ne (xs : List Int) (i j : Nat) (x : Int) (h : i ≠ j) : (xs.set i x).getD j 0 = xs.getD j 0 := by
  rw [List.getD_eq_getElem?_getD, List.getElem?_set_ne h, ← List.getD_eq_getElem?_getD]
theorem rws_late (ts : List Int) (p m j : Nat) (h : m ≤ j) : (rws ts p m).getD j 0 = 0 := by
  induction m with
  | zero =>
    show (List.replicate 64 (0 : Int)).getD j 0 = 0
    rw [List.getD_eq_getElem?_getD, List.getElem?_replicate]
    split <;> rfl
  | succ m ih =>
    simp only [rws]
    rw [getD_set_ne _ _ _ _ (by omega)]
    exact ih (by omega)
theorem rws_keep (ts : List Int) (p m j : Nat) (h : j < m) : (rws ts p m).getD j 0 = (rws ts p (j + 1)).getD j 0 := by
  induction m with
  | zero => omega
  | succ m ih =>
    by_cases hj : j = m
    · rw [hj]
    · rw [← ih (by omega)]
      simp only [rws]
      rw [getD_set_ne _ _ _ _ (by omega)]
theorem BytesOk.get {bs : List Int} (h : BytesOk bs) (j : Nat) : 0 ≤ bs.getD j 0 ∧ bs.getD j 0 ≤ 255 := by
  rw [List.getD_eq_getElem?_getD]
  by_cases hj : j < bs.length
  · rw [List.getElem?_eq_getElem hj]; exact h _ (List.getElem_mem hj)
  · rw [List.getElem?_eq_none (by omega)]; simp
theorem BytesOk.drop {bs : List Int} (h : BytesOk bs) (j : Nat) : BytesOk (bs.drop j) := fun x hx => h x (List.mem_of_mem_drop hx)
theorem getD_drop (xs : List Int) (p j : Nat) : (xs.drop p).getD j 0 = xs.getD (p + j) 0 := by
  rw [List.getD_eq_getElem?_getD, List.getElem?_drop, ← List.getD_eq_getElem?_getD]
theorem sched1_rws (ts : List Int) (p : Nat) (hl : p + 64 ≤ ts.length) (hb : BytesOk ts) (m : Nat) (hm : m ≤ 16) : sched1 (ts.drop p) (4 * m) = rws ts p m := by
  induction m with
  | zero => rfl
  | succ m ih =>
    have ih := ih (by omega)
    obtain ⟨X, hX⟩ : ∃ X, X = rws ts p m := ⟨_, rfl⟩
    have hXl : X.length = 64 := by rw [hX]; exact rws_length _ _ _
    have hX0 : X.getD m 0 = 0 := by rw [hX]; exact rws_late _ _ _ _ (Nat.le_refl _)
    rw [← hX] at ih
    have r (j : Nat) : 0 ≤ (ts.drop p).getD j 0 ∧ (ts.drop p).getD j 0 ≤ 255 := (hb.drop p).get j
    have step (k : Nat) (Y : List Int) (y : Int) (hk : k / 4 = m) (hY : sched1 (ts.drop p) k = Y.set m y) (hYl : Y.length = 64) (h0 : 0 ≤ y) (h1 : y < 16777216) :
        sched1 (ts.drop p) (k + 1) = Y.set m (y * 256 + (ts.drop p).getD k 0) := by
      simp only [sched1]
      rw [hk, hY, getD_set_self _ _ _ (by omega)]
      unfold rd
      rw [Int.toNat_natCast, or_bytes _ _ h0 h1 (r k).1 (r k).2, List.set_set]
    have r0 := r (4 * m)
    have r1 := r (4 * m + 1)
    have r2 := r (4 * m + 2)
    have r3 := r (4 * m + 3)
    have s0 : sched1 (ts.drop p) (4 * m) = X.set m 0 := by
      rw [ih]
      apply List.ext_getElem?
      intro j
      by_cases hj : m = j
      · subst hj
        rw [List.getElem?_set_self (by omega), List.getElem?_eq_getElem (by omega)]
        rw [List.getD_eq_getElem?_getD, List.getElem?_eq_getElem (by omega)] at hX0
        exact congrArg some hX0
      · rw [List.getElem?_set_ne hj]
    have s1 := step (4 * m) X 0 (by omega) s0 hXl (by omega) (by omega)
    have s2 := step (4 * m + 1) X _ (by omega) s1 hXl (by omega) (by omega)
    have s3 := step (4 * m + 2) X _ (by omega) s2 hXl (by omega) (by omega)
    have s4 := step (4 * m + 3) X _ (by omega) s3 hXl (by omega) (by omega)
    show sched1 (ts.drop p) (4 * m + 4) = _
    rw [s4]
    simp only [rws]
    rw [if_pos (by omega), ← hX, rword_eq _ (by rw [List.length_drop]; omega) (hb.drop _)]
    simp only [getD_drop]
    rw [show p + 4 * m + 0 = p + 4 * m from rfl, show p + (4 * m + 1) = p + 4 * m + 1 from rfl, show p + (4 * m + 2) = p + 4 * m + 2 from rfl, show p + (4 * m + 3) = p + 4 * m + 3 from rfl]
    simp only [Int.zero_mul, Int.zero_add]
theorem sched2At_eq (ws : List Int) (i : Nat) : sched2At ws i = rnext ws i := by
  unfold sched2At rnext
  simp only [gamma_R10, gamma_R3]
  omega
theorem sched2_rws (ts : List Int) (p k : Nat) : sched2 (rws ts p 16) k = rws ts p (16 + k) := by
  induction k with
  | zero => rfl
  | succ k ih =>
    simp only [sched2]
    rw [ih, show 16 + (k + 1) = (16 + k) + 1 from rfl]
    simp only [rws]
    rw [if_neg (by omega), Nat.add_comm 16 k, sched2At_eq]
theorem schedule_rws (ts : List Int) (p : Nat) (hl : p + 64 ≤ ts.length) (hb : BytesOk ts) : schedule (ts.drop p) = rws ts p 64 := by
  unfold schedule
  rw [show 64 = 4 * 16 from rfl, sched1_rws ts p hl hb 16 (by omega), sched2_rws]
theorem rounds_eq (ts : List Int) (p : Nat) (h : Sums) (i : Nat) (hi : i ≤ 64) : Sums.rounds (rws ts p 64) h i = rrounds ts p h i := by
  induction i with
  | zero => rfl
  | succ i ih =>
    simp only [Sums.rounds, rrounds]
    rw [ih (by omega), round_eq, rws_keep ts p 64 i (by omega)]
theorem addW_get (xs ys : List Int) (k : Nat) (hk : k ≤ xs.length) (j : Nat) : (addW xs ys k).getD j 0 = if j < k then (xs.getD j 0 + ys.getD j 0) % 4294967296 else xs.getD j 0 := by
  induction k with
  | zero => simp [addW]
  | succ k ih =>
    have ih := ih (by omega)
    simp only [addW]
    by_cases hj : k = j
    · subst hj
      rw [getD_set_self _ _ _ (by rw [addW_length]; omega), ih, if_neg (by omega), if_pos (by omega)]
    · rw [getD_set_ne _ _ _ _ hj, ih]
      by_cases h : j < k
      · rw [if_pos h, if_pos (by omega)]
      · rw [if_neg h, if_neg (by omega)]
theorem ext_getD (xs ys : List Int) (hl : xs.length = ys.length) (h : ∀ j, j < xs.length → xs.getD j 0 = ys.getD j 0) : xs = ys := by
  apply List.ext_getElem hl
  intro j h1 h2
  have := h j h1
  rwa [List.getD_eq_getElem?_getD, List.getD_eq_getElem?_getD, List.getElem?_eq_getElem h1, List.getElem?_eq_getElem h2] at this
theorem addW_comm (xs ys : List Int) (hx : xs.length = 8) (hy : ys.length = 8) : addW xs ys 8 = addW ys xs 8 := by
  apply ext_getD
  · rw [addW_length, addW_length, hx, hy]
  · intro j hj
    rw [addW_length] at hj
    rw [addW_get _ _ _ (by omega), addW_get _ _ _ (by omega), if_pos (by omega), if_pos (by omega), Int.add_comm]
theorem take_rws (ts : List Int) (p : Nat) (s : Sums) (hl : p + 64 ≤ ts.length) (hb : BytesOk ts) : s.take (ts.drop p) = addW s.list (rrounds ts p s 64).list 8 := by
  unfold Sums.take
  rw [schedule_rws ts p hl hb, rounds_eq _ _ _ _ (Nat.le_refl _)]
  exact addW_comm _ _ rfl rfl
theorem sched1_congr (a b : List Int) (k : Nat) (h : ∀ j, j < k → a.getD j 0 = b.getD j 0) : sched1 a k = sched1 b k := by
  induction k with
  | zero => rfl
  | succ k ih =>
    simp only [sched1]
    unfold rd
    rw [ih (fun j hj => h j (by omega)), Int.toNat_natCast, h k (by omega)]
theorem take_congr (s : Sums) (a b : List Int) (h : ∀ j, j < 64 → a.getD j 0 = b.getD j 0) : s.take a = s.take b := by
  unfold Sums.take schedule
  rw [sched1_congr a b 64 h]
theorem blocks_rsums (ts bs : List Int) (p m : Nat) (S : Sums) (hS : S = rsums ts p) (hl : 64 * (p + m) ≤ ts.length) (hb : BytesOk ts)
    (hg : ∀ i j, i < m → j < 64 → (bs.drop (64 * i)).getD j 0 = ts.getD (64 * (p + i) + j) 0) : Sums.blocks S bs m = rsums ts (p + m) := by
  induction m with
  | zero => exact hS
  | succ m ih =>
    have ih := ih (by omega) (fun i j hi hj => hg i j (by omega) hj)
    simp only [Sums.blocks]
    rw [ih, show p + (m + 1) = (p + m) + 1 from rfl]
    simp only [rsums]
    rw [← take_rws ts (64 * (p + m)) (rsums ts (p + m)) (by omega) hb]
    refine congrArg Sums.of (take_congr _ _ _ fun j hj => ?_)
    rw [hg m j (by omega) hj, getD_drop]
theorem tailLen_length (m k : Nat) : ∀ (x i : Nat) (ys : List Int), (tailLen m k x i ys).length = ys.length := by
  induction k with
  | zero => intro x i ys; rfl
  | succ k ih =>
    intro x i ys
    simp only [tailLen]
    split
    · rw [ih, List.length_set]
    · rfl
theorem tailLen_get (m k : Nat) : ∀ (x i : Nat) (ys : List Int) (j : Nat), 1 ≤ i → m ≤ ys.length → i + k ≤ m + 1 → (∀ j, m < j + i + k → j + i ≤ m → ys.getD j 0 = 0) →
    (tailLen m k x i ys).getD j 0 = if m < j + i + k ∧ j + i ≤ m then ((x / 256 ^ (m - i - j) % 256 : Nat) : Int) else ys.getD j 0 := by
  induction k with
  | zero =>
    intro x i ys j _ _ _ _
    rw [if_neg (by omega)]
    rfl
  | succ k ih =>
    intro x i ys j hi hm hk hz
    simp only [tailLen]
    by_cases hx : 0 < x
    · rw [if_pos hx, ih (x / 256) (i + 1) (ys.set (m - i) ((x % 256 : Nat) : Int)) j (by omega) (by rw [List.length_set]; omega) (by omega) (fun j h1 h2 => by rw [getD_set_ne _ _ _ _ (by omega)]; exact hz j (by omega) (by omega))]
      by_cases h1 : m < j + (i + 1) + k ∧ j + (i + 1) ≤ m
      · rw [if_pos h1, if_pos (by omega)]
        congr 2
        rw [Nat.div_div_eq_div_mul]
        congr 1
        rw [show m - i - j = (m - (i + 1) - j) + 1 from by omega, Nat.pow_succ, Nat.mul_comm]
      · rw [if_neg h1]
        by_cases h2 : j + i = m
        · rw [if_pos (by omega), show m - i = j from by omega, getD_set_self _ _ _ (by omega), show j - j = 0 from by omega, Nat.pow_zero, Nat.div_one]
        · rw [if_neg (by omega), getD_set_ne _ _ _ _ (by omega)]
    · rw [if_neg hx]
      obtain rfl : x = 0 := by omega
      by_cases h1 : m < j + i + (k + 1) ∧ j + i ≤ m
      · rw [if_pos h1, hz j h1.1 h1.2, Nat.zero_div]
        rfl
      · rw [if_neg h1]
theorem rlen_get (n k j : Nat) (h : j < k) : (rlen n k).getD j 0 = (8 * (n : Int)) / 2 ^ (56 - 8 * (j : Int)).toNat % 256 := by
  induction k with
  | zero => omega
  | succ k ih =>
    simp only [rlen]
    rw [List.getD_eq_getElem?_getD]
    by_cases hj : j < k
    · rw [List.getElem?_append_left (by rw [rlen_length]; exact hj), ← List.getD_eq_getElem?_getD]
      exact ih hj
    · obtain rfl : j = k := by omega
      rw [List.getElem?_append_right (by rw [rlen_length]; omega), rlen_length, Nat.sub_self]
      rfl
theorem tailBlocks_r (n : Nat) : n / 64 + tailBlocks n = rblocks n := by
  unfold tailBlocks rblocks
  split <;> omega
theorem getD_append_left (xs ys : List Int) (j : Nat) (h : j < xs.length) : (xs ++ ys).getD j 0 = xs.getD j 0 := by
  rw [List.getD_eq_getElem?_getD, List.getElem?_append_left h, ← List.getD_eq_getElem?_getD]
theorem getD_append_right (xs ys : List Int) (j : Nat) (h : xs.length ≤ j) : (xs ++ ys).getD j 0 = ys.getD (j - xs.length) 0 := by
  rw [List.getD_eq_getElem?_getD, List.getElem?_append_right h, ← List.getD_eq_getElem?_getD]
theorem getD_replicate0 (n j : Nat) : (List.replicate n (0 : Int)).getD j 0 = 0 := by
  rw [List.getD_eq_getElem?_getD, List.getElem?_replicate]
  split <;> rfl
theorem rpad_get (bs : List Int) (k j : Nat) : (rpad bs k).getD j 0 = if j < bs.length then bs.getD j 0 else if j = bs.length then 128 else 0 := by
  unfold rpad
  by_cases h : j < bs.length
  · rw [if_pos h, getD_append_left _ _ _ (by simp; omega), getD_append_left _ _ _ h]
  · rw [if_neg h]
    by_cases h2 : j = bs.length
    · rw [if_pos h2, getD_append_left _ _ _ (by simp; omega), getD_append_right _ _ _ (by omega), h2, Nat.sub_self]
      rfl
    · rw [if_neg h2, getD_append_right _ _ _ (by simp; omega), getD_replicate0]
theorem tail0_get (rest : List Int) (hr : rest.length < 128) (j : Nat) : (tail0 rest).getD j 0 = if j < rest.length then rest.getD j 0 else if j = rest.length then 128 else 0 := by
  unfold tail0
  by_cases h2 : j = rest.length
  · rw [if_neg (by omega), if_pos h2, h2, getD_set_self _ _ _ (by simp; omega)]
  · rw [getD_set_ne _ _ _ _ (by omega)]
    by_cases h : j < rest.length
    · rw [if_pos h, getD_append_left _ _ _ h]
    · rw [if_neg h, if_neg h2, getD_append_right _ _ _ (by omega), getD_replicate0]
theorem tail0_length (rest : List Int) (hr : rest.length < 128) : (tail0 rest).length = 128 := by
  unfold tail0
  simp
  omega
theorem tailOf_rtext (bs : List Int) : (tailOf bs).take (tailSize bs.length) = (rtext bs).drop (64 * (bs.length / 64)) := by
  obtain ⟨n, hn⟩ : ∃ n, n = bs.length := ⟨_, rfl⟩
  have hrl : (bs.drop (64 * (bs.length / 64))).length = n % 64 := by rw [List.length_drop]; omega
  have ht : n / 64 + tailBlocks n = rblocks n := tailBlocks_r n
  have hz := rzeros_eq n
  have hts : tailSize n = 64 * tailBlocks n := rfl
  have htb : tailBlocks n = 1 ∨ tailBlocks n = 2 := by unfold tailBlocks; split <;> omega
  have htl : (tailOf bs).length = 128 := by unfold tailOf; rw [tailLen_length, tail0_length _ (by omega)]
  apply ext_getD
  · rw [List.length_take, htl, List.length_drop, rtext_length, ← hn]
    omega
  · intro j hj
    rw [List.length_take, htl, ← hn] at hj
    rw [getD_drop]
    have h1 : ((tailOf bs).take (tailSize bs.length)).getD j 0 = (tailOf bs).getD j 0 := by
      rw [List.getD_eq_getElem?_getD, List.getElem?_take, if_pos (by rw [← hn]; omega), ← List.getD_eq_getElem?_getD]
    rw [h1]
    unfold tailOf
    rw [tailLen_get _ 8 _ 1 _ j (by omega) (by rw [tail0_length _ (by omega), ← hn]; omega) (by rw [← hn]; omega) (fun j h1 h2 => by
      rw [tail0_get _ (by omega), hrl, if_neg (by rw [← hn] at *; omega), if_neg (by rw [← hn] at *; omega)])]
    unfold rtext
    rw [← hn] at hrl
    rw [← hn]
    by_cases hw : tailSize n < j + 1 + 8 ∧ j + 1 ≤ tailSize n
    · rw [if_pos hw, getD_append_right _ _ _ (by rw [rpad_length, ← hn]; omega), rpad_length, ← hn]
      obtain ⟨k, hk⟩ : ∃ k, k = 64 * (n / 64) + j - (n + 1 + rzeros n) := ⟨_, rfl⟩
      rw [← hk, rlen_get _ _ _ (by omega), show tailSize n - 1 - j = 7 - k from by omega]
      have hk8 : k < 8 := by omega
      rcases (show k = 0 ∨ k = 1 ∨ k = 2 ∨ k = 3 ∨ k = 4 ∨ k = 5 ∨ k = 6 ∨ k = 7 by omega) with h | h | h | h | h | h | h | h <;> rw [h] <;> simp <;> omega
    · rw [if_neg hw, tail0_get _ (by omega), hrl, getD_append_left _ _ _ (by rw [rpad_length, ← hn]; omega), rpad_get, ← hn]
      by_cases h2 : j < n % 64
      · rw [if_pos h2, if_pos (by omega), getD_drop]
      · rw [if_neg h2, if_neg (show ¬ 64 * (n / 64) + j < n by omega)]
        by_cases h3 : j = n % 64
        · rw [if_pos h3, if_pos (by omega)]
        · rw [if_neg h3, if_neg (by omega)]
theorem rtext_ok (bs : List Int) (hb : BytesOk bs) : BytesOk (rtext bs) := by
  intro x hx
  unfold rtext rpad at hx
  simp only [List.mem_append, List.mem_singleton, List.mem_replicate] at hx
  rcases hx with ((hx | rfl) | ⟨_, rfl⟩) | hx
  · exact hb x hx
  · omega
  · omega
  · have h (k : Nat) : ∀ x ∈ rlen bs.length k, 0 ≤ x ∧ x ≤ 255 := by
      induction k with
      | zero => intro x hx; cases hx
      | succ k ih =>
        intro x hx
        simp only [rlen, List.mem_append, List.mem_singleton] at hx
        rcases hx with hx | rfl
        · exact ih x hx
        · omega
    exact h 8 x hx
theorem out_eq (s : Sums) : outB s.list 32 = rout s.list 8 := by
  simp [outB, rout, wordByte, Sums.list]
theorem sum_eq (bs : List Int) (hb : BytesOk bs) : shaSum bs = refSum bs := by
  unfold shaSum refSum
  rw [out_eq]
  congr 2
  have ht := tailBlocks_r bs.length
  have hz := rzeros_eq bs.length
  have hl := rtext_length bs
  have h1 : Sums.blocks Sums.first bs (bs.length / 64) = rsums (rtext bs) (0 + bs.length / 64) := by
    refine blocks_rsums (rtext bs) bs 0 (bs.length / 64) Sums.first rfl (by rw [hl]; omega) (rtext_ok bs hb) ?_
    intro i j hi hj
    rw [getD_drop, Nat.zero_add]
    unfold rtext
    rw [getD_append_left _ _ _ (by rw [rpad_length]; omega), rpad_get, if_pos (by omega)]
  rw [h1, Nat.zero_add, tailOf_rtext, ← ht]
  refine blocks_rsums (rtext bs) _ _ _ _ rfl (by rw [hl]; omega) (rtext_ok bs hb) ?_
  intro i j hi hj
  rw [getD_drop, getD_drop]
  congr 1
  omega
end Go.Proofs.YtdeneoknjeegbaaDoor.P
end
section
set_option linter.unusedVariables false
set_option linter.unusedSimpArgs false
namespace Go.Proofs.YtdeneoknjeegbaaDoor.P
open Go.RowKit Go.Proofs.YtdeneoknjeegbaaDoorW.PrintWords Go.Proofs.YtdeneoknjeegbaaDoorW.PrintLast Go.Proofs.YtdeneoknjeegbaaDoorW.PrintMore
def bitBytes (n : Nat) : Nat := (n - 1) / 8 + 1
def cutByte (x : Int) (over : Int) : Int := Go.bits .and .u8 x (255 * 2 ^ (8 - over).toNat % 256)
def firstBits (l : List Int) (n : Nat) : List Int :=
  if n % 8 = 0 then l.take (bitBytes n) else (l.take (bitBytes n)).set (bitBytes n - 1) (cutByte ((l.take (bitBytes n)).getD (bitBytes n - 1) 0) ((n % 8 : Nat) : Int))
def firstB (l : List Int) (a : Int) : List Int := if 8 * (l.length : Int) ≤ a then l else if a < 1 then [] else firstBits l a.toNat
def bits_First.f (l0 : List Int) (a1 : Int) : Option (List Int) := if l0.length < 140737488355328 then some (firstB l0 a1) else none
theorem and7 (a : Int) : Go.bits .and .i64 a 7 = a % 8 := by
  unfold Go.bits
  have h7 : BitVec.ofInt IntKind.i64.bits 7 = BitVec.ofNat 64 7 := rfl
  have ha : (BitVec.ofInt IntKind.i64.bits a &&& BitVec.ofInt IntKind.i64.bits 7).toNat = (a % 8).toNat := by
    rw [h7]
    have h1 : (BitVec.ofInt 64 a).toNat = (a % 18446744073709551616).toNat := by rw [BitVec.toNat_ofInt]; rfl
    show ((BitVec.ofInt 64 a) &&& BitVec.ofNat 64 7).toNat = _
    rw [BitVec.toNat_and, h1, BitVec.toNat_ofNat]
    have h2 := Nat.and_two_pow_sub_one_eq_mod (a % 18446744073709551616).toNat 3
    have h3 : (7 % 2 ^ 64 : Nat) = 2 ^ 3 - 1 := by decide
    rw [h3, h2]
    omega
  simp only [ha]
  rw [IntKind.wrap_i64]
  omega
set_option maxHeartbeats 4000000 in
set_option maxRecDepth 100000 in
theorem bits_First.calls (A0 : Option Addr) (c0 : Nat) (l0 : List Int) (a1 : Int) (r : List Int) (w : World) (hr0 : Kd.C (Kd.int .u8) w A0 l0.length l0) (hc0 : l0.length ≤ c0) (h : bits_First.f l0 a1 = some r) :
    Calls Tryd.prog 77 #[.slice A0 l0.length c0, .int .i64 a1] w fun e w' => ∃ v0_ : Value, e = .returned (v0_) ∧ Kd.R (Kd.int .u8) 5 w' w.heap.size (fun _ => True) v0_ r ∧ Below w.heap.size w w' := by
  unfold bits_First.f at h
  split at h
  case isFalse => cases h
  case isTrue hlb =>
  obtain rfl := Option.some.inj h
  have HR := Aside0.mk hr0
  have HC := Aside0.mk hc0
  have hl2 : (l0.length : Int) < 140737488355328 := by omega
  have HL := Aside0.mk hlb
  unfold firstB
  by_cases hge : 8 * (l0.length : Int) ≤ a1
  · rw [if_pos hge]
    have hd : decide (8 * (l0.length : Int) ≤ a1) = true := decide_eq_true hge
    have HH := Aside0.mk (show slices_Clone_byte_byte.f l0 = some l0 from if_pos hlb)
    clear h hr0 hc0 hge hlb
    go_enter Tryd.func77, Tryd.ntmps77
    go_wp2_with fail
    refine (slices_Clone_byte_byte.calls A0 c0 l0 l0 _ HR.out HC.out HH.out).mono ?_
    rintro e1 w1 ⟨v, rfl, hR, hB⟩
    have HR1 := Aside0.mk hR
    have HB1 := Aside0.mk hB
    clear hR hB
    go_wp2_with fail
    go_ret
    exact ⟨_, rfl, HR1.out, HB1.out⟩
  · rw [if_neg hge]
    have hd : decide (8 * (l0.length : Int) ≤ a1) = false := decide_eq_false hge
    by_cases h1 : a1 < 1
    · rw [if_pos h1]
      have hd1 : decide (a1 < 1) = true := decide_eq_true h1
      clear h hr0 hc0 hge h1 hlb
      go_enter Tryd.func77, Tryd.ntmps77
      go_wp2_with fail
      go_ret
      exact ⟨_, rfl, Kd.R_nil _ _ _ _ _, Below.refl _ _⟩
    · rw [if_neg h1]
      have hd1 : decide (a1 < 1) = false := decide_eq_false h1
      obtain ⟨m, hm⟩ : ∃ m, m = bitBytes a1.toNat := ⟨_, rfl⟩
      have hm1 : (a1 - 1) / 8 + 1 = (m : Int) := by rw [hm]; unfold bitBytes; omega
      have hml : m ≤ l0.length := by omega
      have hm0 : 0 < m := by omega
      have ha1 : 1 ≤ a1 := by omega
      have HA1 := Aside0.mk ha1
      have ha2 : a1 ≤ 1125899906842624 := by omega
      have hmi : (m : Int) ≤ 140737488355328 := by omega
      have hmk := print_make (P := Tryd.prog) 31 5 .u8 1 Tryd.underlying31 info5 (by decide) m (by omega)
      obtain ⟨W1, hW1⟩ : ∃ W1, W1 = w.alloc (.cells (madeCells #[.int .u8 0] m) 5) := ⟨_, rfl⟩
      have hz : (madeCells #[Value.int .u8 0] m) = (List.replicate m (Value.int .u8 0)).toArray := by
        apply Array.ext'
        have := own_made w w.heap.size 5 .u8 m (Nat.le_refl _) (by omega)
        apply List.ext_getElem
        · simp [size_madeCells]
        · intro i h1 h2
          simp [madeCells, Nat.mod_one]
      have HTAIL : W1.heap[w.heap.size]? = some (.cells (List.replicate m (Value.int .u8 0)).toArray 5 (0, 0)) := by rw [hW1, hz]; exact heap_alloc_new w _
      have hBW : Below w.heap.size w W1 := by rw [hW1]; exact below_alloc (Below.refl _ _) _
      have hcs := copy_src (Kd.C_take (Kd.C_below hr0 hBW) hml) w.heap.size
      have htl : ((l0.take m).map (Value.int .u8)).length = m := by rw [List.length_map, List.length_take]; omega
      have HW1 := Aside0.mk hW1
      have HM := Aside0.mk hm
      have HML := Aside0.mk hml
      have HTL := Aside0.mk htl
      have HBW := Aside0.mk hBW
      have HT := Aside0.mk HTAIL
      have HCS := Aside0.mk hcs
      have H1C := Aside0.mk (show ∀ v ∈ (l0.take m).map (Value.int .u8), v.oneCell' = true from fun v hv => by obtain ⟨x, _, rfl⟩ := List.mem_map.1 hv; rfl)
      clear h hr0 hc0 hge h1 hlb hm hml htl hBW HTAIL hcs hz hW1
      obtain ⟨ov, hov⟩ : ∃ ov, ov = a1 % 8 := ⟨_, rfl⟩
      have hand := and7 a1
      rw [← hov] at hand
      have ov0 : 0 ≤ ov := by omega
      have ov8 : ov < 8 := by omega
      have HOV := Aside0.mk hov
      clear hov
      by_cases hz : 0 < ov
      · have hdv : decide (0 < ov) = true := decide_eq_true hz
        have HZ := Aside0.mk hz
        clear hz
        go_enter Tryd.func77, Tryd.ntmps77
        go_wp2_with (first | ((with_reducible refine gate_builtin (b := .copy) (xs := #[.tmp 21, .tmp 22]) rfl ?_); rw [← HW1.out]; go_must (refine wpList_copy_splice rfl (.tmp 21) (.tmp 22) 31 31 rfl 5 Tryd.underlying31 (by kernel_rfl) (some ⟨w.heap.size, 0, none⟩) A0 m m l0.length c0 rfl rfl w.heap.size 0 (List.replicate m (.int .u8 0)) 5 HT.out ((l0.take m).map (Value.int .u8)) (HTL.out.trans (Nat.min_eq_right HML.out).symm) HCS.out (by rw [HTL.out]; simp) H1C.out w.heap.size _ HBW.out (Nat.le_refl _) ?_; intro w2 HG2 hB2; rw [HTL.out]; have HTB := Aside0.mk (IsBytes.of_splice HG2.out); have HB2 := Aside0.mk hB2; clear HG2 hB2 hm1 hmk ha1 ha2 hl2 hd hd1)))
        obtain ⟨xs, hxs⟩ : ∃ xs, xs = l0.take m := ⟨_, rfl⟩
        have hxl : xs.length = m := by have := HML.out; rw [hxs, List.length_take]; omega
        have hTB : IsBytes w2 w.heap.size 5 xs := by have := HTB.out; rw [← hxs, hxl, Nat.sub_self, List.replicate_zero, List.append_nil] at this; exact this
        have HTX := Aside0.mk hTB
        have HXS := Aside0.mk hxs
        obtain ⟨g, hg⟩ : ∃ g, g = w.heap.size := ⟨_, rfl⟩
        rw [← hg] at HTX
        rw [← hg]
        have HG := Aside0.mk hg
        clear hTB hxs hg HTB
        refine still_tail_at 11 (by kernel_rfl) (by kernel_rfl) (fun W hW => ?_)
        replace HTX : Aside0 (IsBytes W g 5 xs) := ⟨by rw [hW]; exact HTX.out⟩
        replace HB2 : Aside0 (Below w.heap.size w W) := ⟨by rw [hW]; exact below_drew1 HB2.out⟩
        clear hW
        obtain ⟨j, hj⟩ : ∃ j, j = m - 1 := ⟨_, rfl⟩
        have hjm : (m : Int) - 1 = (j : Int) := by omega
        have wj : IntKind.i64.wrap (j : Int) = (j : Int) := IntWalk.i64_in _ ⟨by omega, by omega⟩
        have qj : (j : Int) < (m : Int) := by omega
        have qj2 : j < m := by omega
        have pj : 0 ≤ (j : Int) := by omega
        have hc := HTX.out.cell j (by omega)
        have hf := HTX.out.frozen j
        obtain ⟨x, hx⟩ : ∃ x, x = xs.getD j 0 := ⟨_, rfl⟩
        rw [← hx] at hc
        obtain ⟨s, hs⟩ : ∃ s, s = 8 - ov := ⟨_, rfl⟩
        have hs2 : 8 - ov = s := hs.symm
        have ws : IntKind.i64.wrap s = s := IntWalk.i64_in _ ⟨by omega, by omega⟩
        have s0 : 0 ≤ s := by omega
        have s8 : s ≤ 8 := by omega
        have HS := Aside0.mk hs
        have HX := Aside0.mk hx
        have HJ := Aside0.mk hj
        have HXL := Aside0.mk hxl
        clear hj hx hs hxl ov0 ov8 hmi hm0
        simp only [List.take_succ_cons, List.take_zero, List.drop_succ_cons, List.drop_zero]
        repeat still_step
        refine wpStill_nil ?_
        go_wp2_with fail
        go_ret
        have hfin : firstBits l0 a1.toNat = xs.set j (Go.bits .and .u8 x (255 * 2 ^ s.toNat % 256)) := by
          have hm := HML.out
          have hz := HZ.out
          have ho := HOV.out
          have h1 := HA1.out
          have hov : ((a1.toNat % 8 : Nat) : Int) = ov := by omega
          unfold firstBits
          rw [if_neg (by omega), ← HM.out, ← HXS.out, ← HJ.out, ← HX.out, hov]
          unfold cutByte
          rw [← HS.out]
        rw [hfin]
        have hge : w.heap.size ≤ g := by rw [HG.out]; exact Nat.le_refl _
        exact ⟨_, rfl, (HTX.out.set j _).R hge (by rw [List.length_set]; exact HXL.out) (by have := HML.out; have := HL.out; unfold maxLen; omega), HB2.out.setCell (by show w.heap.size ≤ g; exact hge) _⟩
      · have hdv : decide (0 < ov) = false := decide_eq_false hz
        have hov0 : ov = 0 := by omega
        have HZ := Aside0.mk hov0
        clear hz hov0
        go_enter Tryd.func77, Tryd.ntmps77
        go_wp2_with (first | ((with_reducible refine gate_builtin (b := .copy) (xs := #[.tmp 21, .tmp 22]) rfl ?_); rw [← HW1.out]; go_must (refine wpList_copy_splice rfl (.tmp 21) (.tmp 22) 31 31 rfl 5 Tryd.underlying31 (by kernel_rfl) (some ⟨w.heap.size, 0, none⟩) A0 m m l0.length c0 rfl rfl w.heap.size 0 (List.replicate m (.int .u8 0)) 5 HT.out ((l0.take m).map (Value.int .u8)) (HTL.out.trans (Nat.min_eq_right HML.out).symm) HCS.out (by rw [HTL.out]; simp) H1C.out w.heap.size _ HBW.out (Nat.le_refl _) ?_; intro w2 HG2 hB2; rw [HTL.out]; have HTB := Aside0.mk (IsBytes.of_splice HG2.out); have HB2 := Aside0.mk hB2; clear HG2 hB2 hm1 hmk ha1 ha2 hl2 hd hd1)))
        go_ret
        have hxl : (l0.take m).length = m := by have := HML.out; rw [List.length_take]; omega
        have hTB : IsBytes w2 w.heap.size 5 (l0.take m) := by have := HTB.out; rw [hxl, Nat.sub_self, List.replicate_zero, List.append_nil] at this; exact this
        have hfin : firstBits l0 a1.toNat = l0.take m := by
          unfold firstBits
          rw [if_pos (by have := HZ.out; have := HOV.out; have := HA1.out; omega), ← HM.out]
        rw [hfin]
        exact ⟨_, rfl, hTB.R (Nat.le_refl _) hxl (by have := HML.out; have := HL.out; unfold maxLen; omega), HB2.out⟩
end Go.Proofs.YtdeneoknjeegbaaDoor.P
end
section
namespace Go.Proofs.YtdeneoknjeegbaaDoor.P
open Go.RowKit Go.Proofs.YtdeneoknjeegbaaDoorW.PrintWords Go.Proofs.YtdeneoknjeegbaaDoorW.PrintLast Go.Proofs.YtdeneoknjeegbaaDoorW.PrintMore
attribute [local go_sem] max2_int min2_int max_two min_two max_three min_three max_four min_four
set_option linter.unusedVariables false
set_option linter.unusedSimpArgs false
def annalsref01_Cut.f (a0 : Int) (l1 : List Int) : Option (List Int) := (annalsref01_Sum.f l1).bind fun t172 => (if 0 ≤ (mx 0 (mn a0 32)) then (if (mx 0 (mn a0 32)) ≤ (t172.length : Int) then (some (t172.take ((mx 0 (mn a0 32)) : Int).toNat)) else (none)) else (none))
set_option maxHeartbeats 8000000 in
set_option maxRecDepth 100000 in
theorem annalsref01_Cut.calls (a0 : Int) (A1 : Option Addr) (c1 : Nat) (l1 : List Int) (r : List Int) (w : World) (hr1 : Kd.C (Kd.int .u8) w A1 l1.length l1) (hc1 : l1.length ≤ c1) (h : annalsref01_Cut.f a0 l1 = some r) :
    Calls Tryd.prog 98 #[.int .i64 a0, .slice A1 l1.length c1] w fun e w' => ∃ v0_ : Value, e = .returned (v0_) ∧ Kd.R (Kd.int .u8) 5 w' w.heap.size (fun _ => True) v0_ r ∧ Below w.heap.size w w' := by
  have HR1 := Aside0.mk hr1
  have HC1 := Aside0.mk hc1
  clear hr1 hc1
  have HB := Aside0.mk (Below.refl w.heap.size w)
  have H : ((annalsref01_Sum.f l1).bind fun t172 => (if 0 ≤ (mx 0 (mn a0 32)) then (if (mx 0 (mn a0 32)) ≤ (t172.length : Int) then (some (t172.take ((mx 0 (mn a0 32)) : Int).toNat)) else (none)) else (none))) = some r := h
  clear h
  replace H := Option.bind_eq_some_iff.mp H
  obtain ⟨t172, A30, H⟩ := H
  replace H : (if 0 ≤ (mx 0 (mn a0 32)) then (if (mx 0 (mn a0 32)) ≤ (t172.length : Int) then (some (t172.take ((mx 0 (mn a0 32)) : Int).toNat)) else (none)) else (none)) = some r := H
  have A3 := Aside0.mk A30
  clear A30
  obtain ⟨ji4, hji4⟩ : ∃ j_ : Int, (mn a0 32) = j_ := ⟨_, rfl⟩
  replace H : (if 0 ≤ (mx 0 (ji4)) then (if (mx 0 (ji4)) ≤ (t172.length : Int) then (some (t172.take ((mx 0 (ji4)) : Int).toNat)) else (none)) else (none)) = some r := by first | (rw [hji4] at H; exact H) | (simp only [hji4] at H ⊢; exact H)
  (try rw [hji4] at A3)
  (try (have hji4h : ji4 ≤ 32 := by (rw [← hji4]; unfold mn; (repeat' split) <;> omega)))
  (try (have hji4g : ji4 ≤ 64 := by omega))
  have hji4_ : (if 32 < a0 then 32 else a0) = ji4 := hji4
  obtain ⟨ji5, hji5⟩ : ∃ j_ : Int, (mx 0 (ji4)) = j_ := ⟨_, rfl⟩
  replace H : (if 0 ≤ (ji5) then (if (ji5) ≤ (t172.length : Int) then (some (t172.take ((ji5) : Int).toNat)) else (none)) else (none)) = some r := by first | (rw [hji5] at H; exact H) | (simp only [hji5] at H ⊢; exact H)
  (try rw [hji5] at A3)
  have hji5_ : (if 0 < (ji4) then (ji4) else 0) = ji5 := hji5
  by_cases c6 : 0 ≤ (ji5)
  · rw [if_pos c6] at H
    have c6b0 := eq_true c6
    have c6b1 : decide (0 ≤ (ji5)) = true := decide_eq_true c6
    clear c6
    by_cases c7 : (ji5) ≤ (t172.length : Int)
    · rw [if_pos c7] at H
      have c7b0 := eq_true c7
      have c7b1 : decide ((ji5) ≤ (t172.length : Int)) = true := decide_eq_true c7
      clear c7
      obtain ⟨y175, hy175⟩ : ∃ y_ : List Int, y_ = (t172.take ((ji5) : Int).toNat) := ⟨_, rfl⟩
      replace H : (some y175) = some r := by first | (rw [hy175]; with_reducible exact H) | (have H2_ := (Option.bind_some _ _).symm.trans H; rw [hy175]; with_reducible exact H2_) | (have H2_ := (Option.bind_some _ _).symm.trans H; with_reducible exact H2_) | with_reducible exact H | (rw [hy175]; exact H) | exact H
      have Ny175 := Aside0.mk hy175
      clear hy175
      obtain rfl := Option.some.inj H
      go_enter Tryd.func98, Tryd.ntmps98
      go_wp2_with (first | ((with_reducible refine gate_callee (f := 105) rfl ?_); refine goesL_ (some 6) rfl rfl Tryd.func105 (by kernel_rfl) rfl #[.slice A1 l1.length c1] rfl (by (try simp only [List.map_toArray, List.map_cons, List.map_nil]); first | done | rfl | (simp only [List.length_drop, List.length_take]; rfl)) ?_; (with_reducible refine (annalsref01_Sum.calls _ _ l1 t172 _ ?side1 ?side2 A3.out).mono ?_); (case side1 => repeat (first | exact HR1.out | (with_reducible refine Kd.C_alloc ?_ _) | (with_reducible refine Kd.C_drewN ?_ _) | (with_reducible refine Kd.C_drew ?_))); (case side2 => exact HC1.out); rintro e w8 ⟨v173, rfl, ho0, hb⟩; refine ⟨_, rfl, ?_⟩; have n0_ := Aside0.mk (Kd.R_lower ho0 (below_size (by repeat (first | (with_reducible first | exact HB.out | apply below_alloc | apply pw_below_drewN | apply below_drew1) | exact HB.out)))); have n1_ := Aside0.mk (below_step (by repeat (first | (with_reducible first | exact HB.out | apply below_alloc | apply pw_below_drewN | apply below_drew1) | exact HB.out)) hb); clear HB; have HO174 := n0_; have HB := n1_; clear n0_ n1_; (try clear hb); (try clear hb2); (try clear hk); (try clear hi); (try clear ho0); obtain ⟨Ao9, co9, eo9⟩ := Kd.R_slice HO174.out; subst eo9; have q10 : ((ji5) : Int) ≤ ((t172.length : Int) : Int) := of_decide_eq_true (by first | (with_reducible assumption) | assumption); obtain ⟨i010, hi010, _, hsz10, _⟩ := info_parts info5; have hcut10 := cut_to (P := Tryd.prog) 31 5 .i64 Tryd.underlying31 hi010 Ao9 t172.length co9 (ji5) (of_decide_eq_true (by first | (with_reducible assumption) | assumption)) q10 (Kd.R_reads' HO174.out).2.1; have hr10 := Kd.R_take (m := ((ji5) : Int).toNat) HO174.out (by omega); have hy10 : y175.length = ((ji5) : Int).toNat := (by rw [Ny175.out, List.length_take]; omega); rw [← Ny175.out] at hr10; rw [← hy10] at hr10 hcut10; clear hy10 hi010 hsz10 HO174; have HO177 := Aside0.mk hr10; clear hr10; replace q10 := eq_true q10))
      go_ret
      exact ⟨_, by first | rfl | (simp [errW_none, errW_some] <;> rfl) | (simp only [← hji4, ← hji5]; first | rfl | (simp [errW_none, errW_some] <;> rfl)) | (simp [*, errW_none, errW_some] <;> rfl), by (with_reducible repeat (first | apply Kd.R_alloc | apply Kd.R_drewN | apply Kd.R_drew)); exact HO177.out, by repeat (first | (with_reducible first | exact HB.out | apply below_alloc | apply pw_below_drewN | apply below_drew1) | exact HB.out)⟩
    · rw [if_neg c7] at H
      exact absurd H (by simp)
  · rw [if_neg c6] at H
    exact absurd H (by simp)
end Go.Proofs.YtdeneoknjeegbaaDoor.P
end
