/- Lemmas of this claim, part 6. -/
import Derived.Test.YteamljekjncbfaaDoorPartSeekOne4
import Derived.Test.YteamljekjncbfaaDoorPartSeekOne5
import Derived.Test.YteamljekjncbfaaDoorPartSeekOne2
import Derived.WalkLawsBesides
section
set_option linter.unusedVariables false
set_option linter.unusedSimpArgs false
namespace Go.Proofs.YteamljekjncbfaaDoor.P
open Go.RowKit Go.Proofs.YteamljekjncbfaaDoorW.PrintWords Go.Proofs.YteamljekjncbfaaDoorW.PrintLast Go.Proofs.YteamljekjncbfaaDoorW.PrintMore
theorem wrap_u32 (n : Int) : IntKind.u32.wrap n = n % 4294967296 := IntKind.wrap_u32 n
def W32 (x : Int) : Prop := 0 ≤ x ∧ x < 4294967296
def B (x : Int) : BitVec 32 := BitVec.ofInt 32 x
theorem B_toNat (x : Int) : (B x).toNat = (x % 4294967296).toNat := by
  unfold B; rw [BitVec.toNat_ofInt]; rfl
theorem B_inj {x y : Int} (hx : W32 x) (hy : W32 y) (h : B x = B y) : x = y := by
  have := congrArg BitVec.toNat h
  rw [B_toNat, B_toNat] at this
  unfold W32 at hx hy; omega
theorem B_of (v : BitVec 32) : B ((v.toNat : Int) % 4294967296) = v := by
  apply BitVec.eq_of_toNat_eq
  rw [B_toNat]
  have := v.isLt
  omega
theorem bits_W32 (op : BinOp) (x y : Int) : W32 (Go.bits op .u32 x y) := by
  unfold Go.bits W32
  rw [wrap_u32]
  omega
theorem B_xor (x y : Int) : B (Go.bits .xor .u32 x y) = B x ^^^ B y := by
  unfold Go.bits; rw [wrap_u32]; exact B_of _
theorem B_and (x y : Int) : B (Go.bits .and .u32 x y) = B x &&& B y := by
  unfold Go.bits; rw [wrap_u32]; exact B_of _
theorem B_or (x y : Int) : B (Go.bits .or .u32 x y) = B x ||| B y := by
  unfold Go.bits; rw [wrap_u32]; exact B_of _
theorem B_max : B IntKind.u32.max = BitVec.allOnes 32 := by decide
theorem choice_eq (e f g : Int) : Go.bits .xor .u32 (Go.bits .and .u32 e (Go.bits .xor .u32 f g)) g = Go.bits .xor .u32 (Go.bits .and .u32 e f) (Go.bits .and .u32 (Go.bits .xor .u32 IntKind.u32.max e) g) := by
  apply B_inj (bits_W32 _ _ _) (bits_W32 _ _ _)
  simp only [B_xor, B_and, B_max]
  ext i hi
  simp only [BitVec.getElem_xor, BitVec.getElem_and, BitVec.getElem_allOnes]
  cases (B e)[i] <;> cases (B f)[i] <;> cases (B g)[i] <;> rfl
theorem most_eq (a b c : Int) : Go.bits .or .u32 (Go.bits .and .u32 a (Go.bits .or .u32 b c)) (Go.bits .and .u32 b c) = Go.bits .xor .u32 (Go.bits .xor .u32 (Go.bits .and .u32 a b) (Go.bits .and .u32 a c)) (Go.bits .and .u32 b c) := by
  apply B_inj (bits_W32 _ _ _) (bits_W32 _ _ _)
  simp only [B_xor, B_and, B_or]
  ext i hi
  simp only [BitVec.getElem_xor, BitVec.getElem_and, BitVec.getElem_or]
  cases (B a)[i] <;> cases (B b)[i] <;> cases (B c)[i] <;> rfl
theorem bits_or_comm (x y : Int) : Go.bits .or .u32 x y = Go.bits .or .u32 y x := by
  apply B_inj (bits_W32 _ _ _) (bits_W32 _ _ _)
  simp only [B_or]
  exact BitVec.or_comm _ _
theorem and31 (a : Int) (h0 : 0 ≤ a) (h1 : a < 32) : Go.bits .and .u64 (IntKind.u64.wrap a) 31 = a := by
  have e : IntKind.u64.wrap a = a := by rw [IntKind.wrap_u64]; omega
  rw [e]
  unfold Go.bits
  have ha : (BitVec.ofInt IntKind.u64.bits a &&& BitVec.ofInt IntKind.u64.bits 31).toNat = a.toNat := by
    have h7 : BitVec.ofInt IntKind.u64.bits 31 = BitVec.ofNat 64 31 := rfl
    rw [h7]
    have h1 : (BitVec.ofInt 64 a).toNat = (a % 18446744073709551616).toNat := by rw [BitVec.toNat_ofInt]; rfl
    show ((BitVec.ofInt 64 a) &&& BitVec.ofNat 64 31).toNat = _
    rw [BitVec.toNat_and, h1, BitVec.toNat_ofNat]
    have h2 := Nat.and_two_pow_sub_one_eq_mod (a % 18446744073709551616).toNat 5
    have h3 : (31 % 2 ^ 64 : Nat) = 2 ^ 5 - 1 := by decide
    rw [h3, h2]
    omega
  simp only [ha]
  rw [IntKind.wrap_u64]
  omega
theorem rot_eq (x a : Int) (h : 0 < a ∧ a < 32) : bits_RotateLeft32.f x (wrap64 (32 - a)) = some (Go.bits .or .u32 (shl .u32 x (32 - a)) (shr .u32 x a)) := by
  unfold bits_RotateLeft32.f
  have e : wrap64 (32 - a) = 32 - a := by unfold wrap64; omega
  have e2 : IntKind.u64.wrap (32 - (32 - a)) = a := by rw [IntKind.wrap_u64]; omega
  rw [e, and31 _ (by omega) (by omega), e2, if_pos (by omega), if_pos (by omega)]
theorem right_eq (x a : Int) (h : 0 < a ∧ a < 32) : (annalsref01_right.f x a).getD 0 = Go.bits .or .u32 (shl .u32 x (32 - a)) (shr .u32 x a) := by
  unfold annalsref01_right.f
  have e : wrap64 (32 - a) = 32 - a := by unfold wrap64; omega
  rw [e, if_pos (by omega), if_pos (by omega), bits_or_comm]
  rfl
theorem sigma_R (x a b c : Int) (ha : 0 < a ∧ a < 32) (hb : 0 < b ∧ b < 32) (hc : 0 < c ∧ c < 32) : (sha_sigma.f x a b c).getD 0 = Go.bits .xor .u32 (Go.bits .xor .u32 ((annalsref01_right.f x a).getD 0) ((annalsref01_right.f x b).getD 0)) ((annalsref01_right.f x c).getD 0) := by
  unfold sha_sigma.f
  rw [rot_eq x a ha, rot_eq x b hb, rot_eq x c hc, right_eq x a ha, right_eq x b hb, right_eq x c hc]
  rfl
theorem gamma_R (x a b c : Int) (ha : 0 < a ∧ a < 32) (hb : 0 < b ∧ b < 32) (hc : 0 ≤ c) : (sha_gamma.f x a b c).getD 0 = Go.bits .xor .u32 (Go.bits .xor .u32 ((annalsref01_right.f x a).getD 0) ((annalsref01_right.f x b).getD 0)) (shr .u32 x c) := by
  unfold sha_gamma.f
  rw [rot_eq x a ha, rot_eq x b hb, right_eq x a ha, right_eq x b hb]
  simp only [Option.bind_some]
  rw [if_pos hc]
  rfl
theorem gamma_R10 (x : Int) : (sha_gamma.f x 17 19 10).getD 0 = Go.bits .xor .u32 (Go.bits .xor .u32 ((annalsref01_right.f x 17).getD 0) ((annalsref01_right.f x 19).getD 0)) (x / 1024) := gamma_R x 17 19 10 (by omega) (by omega) (by omega)
theorem gamma_R3 (x : Int) : (sha_gamma.f x 7 18 3).getD 0 = Go.bits .xor .u32 (Go.bits .xor .u32 ((annalsref01_right.f x 7).getD 0) ((annalsref01_right.f x 18).getD 0)) (x / 8) := gamma_R x 7 18 3 (by omega) (by omega) (by omega)
def BytesOk (bs : List Int) : Prop := ∀ x ∈ bs, 0 ≤ x ∧ x ≤ 255
theorem rword_eq (ts : List Int) (h : 4 ≤ ts.length) (hb : BytesOk ts) : rword ts = ((ts.getD 0 0 * 256 + ts.getD 1 0) * 256 + ts.getD 2 0) * 256 + ts.getD 3 0 := by
  unfold rword annalsref01_word.f
  rw [if_pos (by omega), if_pos (by omega), if_pos (by omega), if_pos (by omega), Option.getD_some]
  have g (j : Nat) : 0 ≤ ts.getD j 0 ∧ ts.getD j 0 ≤ 255 := by
    rw [List.getD_eq_getElem?_getD]
    by_cases hj : j < ts.length
    · rw [List.getElem?_eq_getElem hj]; exact hb _ (List.getElem_mem hj)
    · rw [List.getElem?_eq_none (by omega)]; simp
  have g0 := g 0
  have g1 := g 1
  have g2 := g 2
  have g3 := g 3
  unfold rd
  simp only [Int.toNat_zero, Int.toNat_one, show (2 : Int).toNat = 2 from rfl, show (3 : Int).toNat = 3 from rfl]
  omega
theorem round_eq (s : Sums) (add wi : Int) : s.round add wi = s.rround ((add + wi) % 4294967296) := by
  unfold Sums.round Sums.rround
  dsimp only
  rw [sigma_R s.e 6 11 25 (by omega) (by omega) (by omega), sigma_R s.a 2 13 22 (by omega) (by omega) (by omega), choice_eq, most_eq]
  congr 1 <;> omega
theorem or_bytes (x b : Int) (h0 : 0 ≤ x) (h1 : x < 16777216) (b0 : 0 ≤ b) (b1 : b ≤ 255) : Go.bits .or .u32 (x * 256 % 4294967296) (b % 4294967296) = x * 256 + b := by
  have e1 : x * 256 % 4294967296 = x * 256 := by omega
  have e2 : b % 4294967296 = b := by omega
  rw [e1, e2]
  unfold Go.bits
  rw [wrap_u32]
  obtain ⟨n, rfl⟩ : ∃ n : Nat, x = n := ⟨x.toNat, by omega⟩
  obtain ⟨m, rfl⟩ : ∃ n : Nat, b = n := ⟨b.toNat, by omega⟩
  have hn : (BitVec.ofInt IntKind.u32.bits ((n : Int) * 256)).toNat = n * 2 ^ 8 := by
    show (BitVec.ofInt 32 ((n : Int) * 256)).toNat = _
    rw [BitVec.toNat_ofInt]
    omega
  have hm : (BitVec.ofInt IntKind.u32.bits (m : Int)).toNat = m := by
    show (BitVec.ofInt 32 (m : Int)).toNat = _
    rw [BitVec.toNat_ofInt]
    omega
  simp only [BitVec.toNat_or, hn, hm]
  have h3 : n * 2 ^ 8 ||| m = n * 2 ^ 8 + m := by
    rw [Nat.mul_comm]
    exact (Nat.two_pow_add_eq_or_of_lt (by omega) n).symm
  rw [h3]
  omega
theorem getD_set_self (xs : List Int) (i : Nat) (x : Int) (h : i < xs.length) : (xs.set i x).getD i 0 = x := by
  rw [List.getD_eq_getElem?_getD, List.getElem?_set_self h]; rfl
theorem getD_set_ne (xs : List Int) (i j : Nat) (x : Int) (h : i ≠ j) : (xs.set i x).getD j 0 = xs.getD j 0 := by
  rw [List.getD_eq_getElem?_getD, List.getElem?_set_ne h, ← List.getD_eq_getElem?_getD]
theorem rws_late (ts : List Int) (p m j : Nat) (h : m ≤ j) : (rws ts p m).getD j 0 = 0 := by
  induction m with
  | zero =>
    show (List.replicate 64 (0 : Int)).getD j 0 = 0
    rw [List.getD_eq_getElem?_getD, List.getElem?_replicate]
    split <;> rfl
  | succ m ih =>
    simp only [rws]
    rw [getD_set_ne _ _ _ _ (by omega)]
    exact ih (by omega)
theorem rws_keep (ts : List Int) (p m j : Nat) (h : j < m) : (rws ts p m).getD j 0 = (rws ts p (j + 1)).getD j 0 := by
  induction m with
  | zero => omega
  | succ m ih =>
    by_cases hj : j = m
    · rw [hj]
    · rw [← ih (by omega)]
      simp only [rws]
      rw [getD_set_ne _ _ _ _ (by omega)]
theorem BytesOk.get {bs : List Int} (h : BytesOk bs) (j : Nat) : 0 ≤ bs.getD j 0 ∧ bs.getD j 0 ≤ 255 := by
  rw [List.getD_eq_getElem?_getD]
  by_cases hj : j < bs.length
  · rw [List.getElem?_eq_getElem hj]; exact h _ (List.getElem_mem hj)
  · rw [List.getElem?_eq_none (by omega)]; simp
theorem BytesOk.drop {bs : List Int} (h : BytesOk bs) (j : Nat) : BytesOk (bs.drop j) := fun x hx => h x (List.mem_of_mem_drop hx)
theorem getD_drop (xs : List Int) (p j : Nat) : (xs.drop p).getD j 0 = xs.getD (p + j) 0 := by
  rw [List.getD_eq_getElem?_getD, List.getElem?_drop, ← List.getD_eq_getElem?_getD]
theorem sched1_rws (ts : List Int) (p : Nat) (hl : p + 64 ≤ ts.length) (hb : BytesOk ts) (m : Nat) (hm : m ≤ 16) : sched1 (ts.drop p) (4 * m) = rws ts p m := by
  induction m with
  | zero => rfl
  | succ m ih =>
    have ih := ih (by omega)
    obtain ⟨X, hX⟩ : ∃ X, X = rws ts p m := ⟨_, rfl⟩
    have hXl : X.length = 64 := by rw [hX]; exact rws_length _ _ _
    have hX0 : X.getD m 0 = 0 := by rw [hX]; exact rws_late _ _ _ _ (Nat.le_refl _)
    rw [← hX] at ih
    have r (j : Nat) : 0 ≤ (ts.drop p).getD j 0 ∧ (ts.drop p).getD j 0 ≤ 255 := (hb.drop p).get j
    have step (k : Nat) (Y : List Int) (y : Int) (hk : k / 4 = m) (hY : sched1 (ts.drop p) k = Y.set m y) (hYl : Y.length = 64) (h0 : 0 ≤ y) (h1 : y < 16777216) :
        sched1 (ts.drop p) (k + 1) = Y.set m (y * 256 + (ts.drop p).getD k 0) := by
      simp only [sched1]
      rw [hk, hY, getD_set_self _ _ _ (by omega)]
      unfold rd
      rw [Int.toNat_natCast, or_bytes _ _ h0 h1 (r k).1 (r k).2, List.set_set]
    have r0 := r (4 * m)
    have r1 := r (4 * m + 1)
    have r2 := r (4 * m + 2)
    have r3 := r (4 * m + 3)
    have s0 : sched1 (ts.drop p) (4 * m) = X.set m 0 := by
      rw [ih]
      apply List.ext_getElem?
      intro j
      by_cases hj : m = j
      · subst hj
        rw [List.getElem?_set_self (by omega), List.getElem?_eq_getElem (by omega)]
        rw [List.getD_eq_getElem?_getD, List.getElem?_eq_getElem (by omega)] at hX0
        exact congrArg some hX0
      · rw [List.getElem?_set_ne hj]
    have s1 := step (4 * m) X 0 (by omega) s0 hXl (by omega) (by omega)
    have s2 := step (4 * m + 1) X _ (by omega) s1 hXl (by omega) (by omega)
    have s3 := step (4 * m + 2) X _ (by omega) s2 hXl (by omega) (by omega)
    have s4 := step (4 * m + 3) X _ (by omega) s3 hXl (by omega) (by omega)
    show sched1 (ts.drop p) (4 * m + 4) = _
    rw [s4]
    simp only [rws]
    rw [if_pos (by omega), ← hX, rword_eq _ (by rw [List.length_drop]; omega) (hb.drop _)]
    simp only [getD_drop]
    rw [show p + 4 * m + 0 = p + 4 * m from rfl, show p + (4 * m + 1) = p + 4 * m + 1 from rfl, show p + (4 * m + 2) = p + 4 * m + 2 from rfl, show p + (4 * m + 3) = p + 4 * m + 3 from rfl]
    simp only [Int.zero_mul, Int.zero_add]
theorem sched2At_eq (ws : List Int) (i : Nat) : sched2At ws i = rnext ws i := by
  unfold sched2At rnext
  simp only [gamma_R10, gamma_R3]
  omega
theorem sched2_rws (ts : List Int) (p k : Nat) : sched2 (rws ts p 16) k = rws ts p (16 + k) := by
  induction k with
  | zero => rfl
  | succ k ih =>
    simp only [sched2]
    rw [ih, show 16 + (k + 1) = (16 + k) + 1 from rfl]
    simp only [rws]
    rw [if_neg (by omega), Nat.add_comm 16 k, sched2At_eq]
theorem schedule_rws (ts : List Int) (p : Nat) (hl : p + 64 ≤ ts.length) (hb : BytesOk ts) : schedule (ts.drop p) = rws ts p 64 := by
  unfold schedule
  rw [show 64 = 4 * 16 from rfl, sched1_rws ts p hl hb 16 (by omega), sched2_rws]
theorem rounds_eq (ts : List Int) (p : Nat) (h : Sums) (i : Nat) (hi : i ≤ 64) : Sums.rounds (rws ts p 64) h i = rrounds ts p h i := by
  induction i with
  | zero => rfl
  | succ i ih =>
    simp only [Sums.rounds, rrounds]
    rw [ih (by omega), round_eq, rws_keep ts p 64 i (by omega)]
theorem addW_get (xs ys : List Int) (k : Nat) (hk : k ≤ xs.length) (j : Nat) : (addW xs ys k).getD j 0 = if j < k then (xs.getD j 0 + ys.getD j 0) % 4294967296 else xs.getD j 0 := by
  induction k with
  | zero => simp [addW]
  | succ k ih =>
    have ih := ih (by omega)
    simp only [addW]
    by_cases hj : k = j
    · subst hj
      rw [getD_set_self _ _ _ (by rw [addW_length]; omega), ih, if_neg (by omega), if_pos (by omega)]
    · rw [getD_set_ne _ _ _ _ hj, ih]
      by_cases h : j < k
      · rw [if_pos h, if_pos (by omega)]
      · rw [if_neg h, if_neg (by omega)]
theorem ext_getD (xs ys : List Int) (hl : xs.length = ys.length) (h : ∀ j, j < xs.length → xs.getD j 0 = ys.getD j 0) : xs = ys := by
  apply List.ext_getElem hl
  intro j h1 h2
  have := h j h1
  rwa [List.getD_eq_getElem?_getD, List.getD_eq_getElem?_getD, List.getElem?_eq_getElem h1, List.getElem?_eq_getElem h2] at this
theorem addW_comm (xs ys : List Int) (hx : xs.length = 8) (hy : ys.length = 8) : addW xs ys 8 = addW ys xs 8 := by
  apply ext_getD
  · rw [addW_length, addW_length, hx, hy]
  · intro j hj
    rw [addW_length] at hj
    rw [addW_get _ _ _ (by omega), addW_get _ _ _ (by omega), if_pos (by omega), if_pos (by omega), Int.add_comm]
theorem take_rws (ts : List Int) (p : Nat) (s : Sums) (hl : p + 64 ≤ ts.length) (hb : BytesOk ts) : s.take (ts.drop p) = addW s.list (rrounds ts p s 64).list 8 := by
  unfold Sums.take
  rw [schedule_rws ts p hl hb, rounds_eq _ _ _ _ (Nat.le_refl _)]
  exact addW_comm _ _ rfl rfl
theorem sched1_congr (a b : List Int) (k : Nat) (h : ∀ j, j < k → a.getD j 0 = b.getD j 0) : sched1 a k = sched1 b k := by
  induction k with
  | zero => rfl
  | succ k ih =>
    simp only [sched1]
    unfold rd
    rw [ih (fun j hj => h j (by omega)), Int.toNat_natCast, h k (by omega)]
theorem take_congr (s : Sums) (a b : List Int) (h : ∀ j, j < 64 → a.getD j 0 = b.getD j 0) : s.take a = s.take b := by
  unfold Sums.take schedule
  rw [sched1_congr a b 64 h]
theorem blocks_rsums (ts bs : List Int) (p m : Nat) (S : Sums) (hS : S = rsums ts p) (hl : 64 * (p + m) ≤ ts.length) (hb : BytesOk ts)
    (hg : ∀ i j, i < m → j < 64 → (bs.drop (64 * i)).getD j 0 = ts.getD (64 * (p + i) + j) 0) : Sums.blocks S bs m = rsums ts (p + m) := by
  induction m with
  | zero => exact hS
  | succ m ih =>
    have ih := ih (by omega) (fun i j hi hj => hg i j (by omega) hj)
    simp only [Sums.blocks]
    rw [ih, show p + (m + 1) = (p + m) + 1 from rfl]
    simp only [rsums]
    rw [← take_rws ts (64 * (p + m)) (rsums ts (p + m)) (by omega) hb]
    refine congrArg Sums.of (take_congr _ _ _ fun j hj => ?_)
    rw [hg m j (by omega) hj, getD_drop]
theorem tailLen_length (m k : Nat) : ∀ (x i : Nat) (ys : List Int), (tailLen m k x i ys).length = ys.length := by
  induction k with
  | zero => intro x i ys; rfl
  | succ k ih =>
    intro x i ys
    simp only [tailLen]
    split
    · rw [ih, List.length_set]
    · rfl
theorem tailLen_get (m k : Nat) : ∀ (x i : Nat) (ys : List Int) (j : Nat), 1 ≤ i → m ≤ ys.length → i + k ≤ m + 1 → (∀ j, m < j + i + k → j + i ≤ m → ys.getD j 0 = 0) →
    (tailLen m k x i ys).getD j 0 = if m < j + i + k ∧ j + i ≤ m then ((x / 256 ^ (m - i - j) % 256 : Nat) : Int) else ys.getD j 0 := by
  induction k with
  | zero =>
    intro x i ys j _ _ _ _
    rw [if_neg (by omega)]
    rfl
  | succ k ih =>
    intro x i ys j hi hm hk hz
    simp only [tailLen]
    by_cases hx : 0 < x
    · rw [if_pos hx, ih (x / 256) (i + 1) (ys.set (m - i) ((x % 256 : Nat) : Int)) j (by omega) (by rw [List.length_set]; omega) (by omega) (fun j h1 h2 => by rw [getD_set_ne _ _ _ _ (by omega)]; exact hz j (by omega) (by omega))]
      by_cases h1 : m < j + (i + 1) + k ∧ j + (i + 1) ≤ m
      · rw [if_pos h1, if_pos (by omega)]
        congr 2
        rw [Nat.div_div_eq_div_mul]
        congr 1
        rw [show m - i - j = (m - (i + 1) - j) + 1 from by omega, Nat.pow_succ, Nat.mul_comm]
      · rw [if_neg h1]
        by_cases h2 : j + i = m
        · rw [if_pos (by omega), show m - i = j from by omega, getD_set_self _ _ _ (by omega), show j - j = 0 from by omega, Nat.pow_zero, Nat.div_one]
        · rw [if_neg (by omega), getD_set_ne _ _ _ _ (by omega)]
    · rw [if_neg hx]
      obtain rfl : x = 0 := by omega
      by_cases h1 : m < j + i + (k + 1) ∧ j + i ≤ m
      · rw [if_pos h1, hz j h1.1 h1.2, Nat.zero_div]
        rfl
      · rw [if_neg h1]
theorem rlen_get (n k j : Nat) (h : j < k) : (rlen n k).getD j 0 = (8 * (n : Int)) / 2 ^ (56 - 8 * (j : Int)).toNat % 256 := by
  induction k with
  | zero => omega
  | succ k ih =>
    simp only [rlen]
    rw [List.getD_eq_getElem?_getD]
    by_cases hj : j < k
    · rw [List.getElem?_append_left (by rw [rlen_length]; exact hj), ← List.getD_eq_getElem?_getD]
      exact ih hj
    · obtain rfl : j = k := by omega
      rw [List.getElem?_append_right (by rw [rlen_length]; omega), rlen_length, Nat.sub_self]
      rfl
theorem tailBlocks_r (n : Nat) : n / 64 + tailBlocks n = rblocks n := by
  unfold tailBlocks rblocks
  split <;> omega
theorem getD_append_left (xs ys : List Int) (j : Nat) (h : j < xs.length) : (xs ++ ys).getD j 0 = xs.getD j 0 := by
  rw [List.getD_eq_getElem?_getD, List.getElem?_append_left h, ← List.getD_eq_getElem?_getD]
theorem getD_append_right (xs ys : List Int) (j : Nat) (h : xs.length ≤ j) : (xs ++ ys).getD j 0 = ys.getD (j - xs.length) 0 := by
  rw [List.getD_eq_getElem?_getD, List.getElem?_append_right h, ← List.getD_eq_getElem?_getD]
theorem getD_replicate0 (n j : Nat) : (List.replicate n (0 : Int)).getD j 0 = 0 := by
  rw [List.getD_eq_getElem?_getD, List.getElem?_replicate]
  split <;> rfl
theorem rpad_get (bs : List Int) (k j : Nat) : (rpad bs k).getD j 0 = if j < bs.length then bs.getD j 0 else if j = bs.length then 128 else 0 := by
  unfold rpad
  by_cases h : j < bs.length
  · rw [if_pos h, getD_append_left _ _ _ (by simp; omega), getD_append_left _ _ _ h]
  · rw [if_neg h]
    by_cases h2 : j = bs.length
    · rw [if_pos h2, getD_append_left _ _ _ (by simp; omega), getD_append_right _ _ _ (by omega), h2, Nat.sub_self]
      rfl
    · rw [if_neg h2, getD_append_right _ _ _ (by simp; omega), getD_replicate0]
theorem tail0_get (rest : List Int) (hr : rest.length < 128) (j : Nat) : (tail0 rest).getD j 0 = if j < rest.length then rest.getD j 0 else if j = rest.length then 128 else 0 := by
  unfold tail0
  by_cases h2 : j = rest.length
  · rw [if_neg (by omega), if_pos h2, h2, getD_set_self _ _ _ (by simp; omega)]
  · rw [getD_set_ne _ _ _ _ (by omega)]
    by_cases h : j < rest.length
    · rw [if_pos h, getD_append_left _ _ _ h]
    · rw [if_neg h, if_neg h2, getD_append_right _ _ _ (by omega), getD_replicate0]
theorem tail0_length (rest : List Int) (hr : rest.length < 128) : (tail0 rest).length = 128 := by
  unfold tail0
  simp
  omega
theorem tailOf_rtext (bs : List Int) : (tailOf bs).take (tailSize bs.length) = (rtext bs).drop (64 * (bs.length / 64)) := by
  obtain ⟨n, hn⟩ : ∃ n, n = bs.length := ⟨_, rfl⟩
  have hrl : (bs.drop (64 * (bs.length / 64))).length = n % 64 := by rw [List.length_drop]; omega
  have ht : n / 64 + tailBlocks n = rblocks n := tailBlocks_r n
  have hz := rzeros_eq n
  have hts : tailSize n = 64 * tailBlocks n := rfl
  have htb : tailBlocks n = 1 ∨ tailBlocks n = 2 := by unfold tailBlocks; split <;> omega
  have htl : (tailOf bs).length = 128 := by unfold tailOf; rw [tailLen_length, tail0_length _ (by omega)]
  apply ext_getD
  · rw [List.length_take, htl, List.length_drop, rtext_length, ← hn]
    omega
  · intro j hj
    rw [List.length_take, htl, ← hn] at hj
    rw [getD_drop]
    have h1 : ((tailOf bs).take (tailSize bs.length)).getD j 0 = (tailOf bs).getD j 0 := by
      rw [List.getD_eq_getElem?_getD, List.getElem?_take, if_pos (by rw [← hn]; omega), ← List.getD_eq_getElem?_getD]
    rw [h1]
    unfold tailOf
    rw [tailLen_get _ 8 _ 1 _ j (by omega) (by rw [tail0_length _ (by omega), ← hn]; omega) (by rw [← hn]; omega) (fun j h1 h2 => by
      rw [tail0_get _ (by omega), hrl, if_neg (by rw [← hn] at *; omega), if_neg (by rw [← hn] at *; omega)])]
    unfold rtext
    rw [← hn] at hrl
    rw [← hn]
    by_cases hw : tailSize n < j + 1 + 8 ∧ j + 1 ≤ tailSize n
    · rw [if_pos hw, getD_append_right _ _ _ (by rw [rpad_length, ← hn]; omega), rpad_length, ← hn]
      obtain ⟨k, hk⟩ : ∃ k, k = 64 * (n / 64) + j - (n + 1 + rzeros n) := ⟨_, rfl⟩
      rw [← hk, rlen_get _ _ _ (by omega), show tailSize n - 1 - j = 7 - k from by omega]
      have hk8 : k < 8 := by omega
      rcases (show k = 0 ∨ k = 1 ∨ k = 2 ∨ k = 3 ∨ k = 4 ∨ k = 5 ∨ k = 6 ∨ k = 7 by omega) with h | h | h | h | h | h | h | h <;> rw [h] <;> simp <;> omega
    · rw [if_neg hw, tail0_get _ (by omega), hrl, getD_append_left _ _ _ (by rw [rpad_length, ← hn]; omega), rpad_get, ← hn]
      by_cases h2 : j < n % 64
      · rw [if_pos h2, if_pos (by omega), getD_drop]
      · rw [if_neg h2, if_neg (show ¬ 64 * (n / 64) + j < n by omega)]
        by_cases h3 : j = n % 64
        · rw [if_pos h3, if_pos (by omega)]
        · rw [if_neg h3, if_neg (by omega)]
theorem rtext_ok (bs : List Int) (hb : BytesOk bs) : BytesOk (rtext bs) := by
  intro x hx
  unfold rtext rpad at hx
  simp only [List.mem_append, List.mem_singleton, List.mem_replicate] at hx
  rcases hx with ((hx | rfl) | ⟨_, rfl⟩) | hx
  · exact hb x hx
  · omega
  · omega
  · have h (k : Nat) : ∀ x ∈ rlen bs.length k, 0 ≤ x ∧ x ≤ 255 := by
      induction k with
      | zero => intro x hx; cases hx
      | succ k ih =>
        intro x hx
        simp only [rlen, List.mem_append, List.mem_singleton] at hx
        rcases hx with hx | rfl
        · exact ih x hx
        · omega
    exact h 8 x hx
theorem out_eq (s : Sums) : outB s.list 32 = rout s.list 8 := by
  simp [outB, rout, wordByte, Sums.list]
theorem sum_eq (bs : List Int) (hb : BytesOk bs) : shaSum bs = refSum bs := by
  unfold shaSum refSum
  rw [out_eq]
  congr 2
  have ht := tailBlocks_r bs.length
  have hz := rzeros_eq bs.length
  have hl := rtext_length bs
  have h1 : Sums.blocks Sums.first bs (bs.length / 64) = rsums (rtext bs) (0 + bs.length / 64) := by
    refine blocks_rsums (rtext bs) bs 0 (bs.length / 64) Sums.first rfl (by rw [hl]; omega) (rtext_ok bs hb) ?_
    intro i j hi hj
    rw [getD_drop, Nat.zero_add]
    unfold rtext
    rw [getD_append_left _ _ _ (by rw [rpad_length]; omega), rpad_get, if_pos (by omega)]
  rw [h1, Nat.zero_add, tailOf_rtext, ← ht]
  refine blocks_rsums (rtext bs) _ _ _ _ rfl (by rw [hl]; omega) (rtext_ok bs hb) ?_
  intro i j hi hj
  rw [getD_drop, getD_drop]
  congr 1
  omega
end Go.Proofs.YteamljekjncbfaaDoor.P
end
section
set_option linter.unusedVariables false
set_option linter.unusedSimpArgs false
namespace Go.Proofs.YteamljekjncbfaaDoor.P
open Go.RowKit Go.Proofs.YteamljekjncbfaaDoorW.PrintWords Go.Proofs.YteamljekjncbfaaDoorW.PrintLast Go.Proofs.YteamljekjncbfaaDoorW.PrintMore
def rd_bb (xs : List (List Int)) (i : Int) : List Int := xs.getD i.toNat []
theorem at_bb {w : World} {A : Option Addr} {n : Nat} {xs : List (List Int)} (h : Kd.C (Kd.slice 5 (Kd.int .u8)) w A n xs) (i : Int) (h0 : 0 ≤ i) (h1 : i < n) : ∃ ad A0 c0, A = some ad ∧ w.cell? (ad.add i.toNat) = some (.slice A0 (rd_bb xs i).length c0) ∧ (rd_bb xs i).length ≤ c0 ∧ (Kd.int .u8).C w A0 (rd_bb xs i).length (rd_bb xs i) := by
  obtain ⟨ad, c, e, _, hK, hc0⟩ := Kd.C_get h ([] : List Int) i h0 h1
  have hc : ∀ j u, c[j]? = some u → w.cell? (ad.add (i.toNat * 1 + j)) = some u := hc0
  obtain ⟨A0, c0, rfl, l0, g0⟩ := hK
  exact ⟨ad, A0, c0, e, by have hq := hc 0 _ rfl; rwa [Nat.mul_one, Nat.add_zero] at hq, l0, g0⟩
theorem long_calls (A : Option Addr) (n c : Nat) (w : World) :
    Calls Tryd.prog 107 #[.slice A n c] w fun e w' => e = .returned (.bool (decide (65535 < (n : Int)))) ∧ w' = w := by
  go_enter Tryd.func107, Tryd.ntmps107
  go_wp2_with fail
  go_ret
  exact ⟨rfl, rfl⟩
def isLong (p : List Int) : Bool := decide (65535 < (p.length : Int))
set_option maxHeartbeats 1000000 in
set_option maxRecDepth 100000 in
theorem index_long (A0 : Option Addr) (c0 : Nat) (l0 : List (List Int)) (w : World) (hr0 : Kd.C (Kd.slice 5 (Kd.int .u8)) w A0 l0.length l0) (hb : (l0.length : Int) ≤ 9223372036854775807) :
    Calls Tryd.prog 114 #[.slice A0 l0.length c0, .func (.func 107) #[] #[]] w fun e w' => ∃ i : Int, e = .returned (.int .i64 i) ∧ decide (0 ≤ i) = l0.any isLong ∧ w' = w := by
  have HR := Aside0.mk hr0
  clear hr0
  go_enter Tryd.func114, Tryd.ntmps114
  go_wp2_with fail
  go_loopw [8] (fun v8 wr => ∃ k : Nat, k ≤ l0.length ∧ v8 = .int .i64 (k : Int) ∧ wr = w ∧ Aside0 (l0.any isLong = (l0.drop k).any isLong)) (fun v8 _ => l0.length - (intOf v8).toNat)
  case atStart => exact ⟨0, by omega, rfl, rfl, ⟨by rw [List.drop_zero]⟩⟩
  case round =>
    obtain ⟨k, hk, rfl, rfl, HA⟩ := hrel
    by_cases hlt : k < l0.length
    · have hd : decide ((k : Int) < (l0.length : Int)) = true := by simp; omega
      obtain ⟨ad, A1, c1, rfl, hx, hc, hi⟩ := at_bb HR.out (k : Int) (by omega) (by omega)
      rw [Int.toNat_natCast] at hx
      have hdr : l0.drop k = rd_bb l0 k :: l0.drop (k + 1) := by
        rw [List.drop_eq_getElem_cons hlt]
        unfold rd_bb
        rw [List.getD_eq_getElem?_getD, Int.toNat_natCast, List.getElem?_eq_getElem hlt]
        rfl
      have HDR := Aside0.mk hdr
      clear hdr hi hc
      by_cases hL : 65535 < ((rd_bb l0 k).length : Int)
      · have hdL : decide (65535 < ((rd_bb l0 k).length : Int)) = true := decide_eq_true hL
        have HLL := Aside0.mk hL
        clear hL
        go_wp2_with fail
        refine (long_calls A1 _ c1 _).mono ?_
        rintro e1 w1 ⟨rfl, rfl⟩
        rw [hdL]
        go_wp2_with fail
        go_ret
        have hany : l0.any isLong = true := by rw [HA.out, HDR.out, List.any_cons, show isLong (rd_bb l0 k) = true from hdL]; rfl
        exact ⟨_, rfl, by rw [hany]; simp, rfl⟩
      · have hdL : decide (65535 < ((rd_bb l0 k).length : Int)) = false := decide_eq_false hL
        have HLL := Aside0.mk hL
        clear hL
        go_wp2_with fail
        refine (long_calls A1 _ c1 _).mono ?_
        rintro e1 w1 ⟨rfl, rfl⟩
        rw [hdL]
        go_wp2_with fail
        have hany : l0.any isLong = (l0.drop (k + 1)).any isLong := by rw [HA.out, HDR.out, List.any_cons, show isLong (rd_bb l0 k) = false from hdL]; rfl
        exact ⟨⟨k + 1, by omega, by go_num, trivial, ⟨hany⟩⟩, by simp only [intOf]; omega⟩
    · obtain rfl : k = l0.length := by omega
      have hd : decide ((l0.length : Int) < (l0.length : Int)) = false := by simp
      go_wp2_with fail
      go_ret
      exact ⟨_, rfl, by rw [HA.out, List.drop_length]; rfl, rfl⟩
def slices_ContainsFunc_byte_byte.f (l0 : List (List Int)) (a1 : Int) : Option Bool := some (l0.any isLong)
set_option maxRecDepth 100000 in
theorem slices_ContainsFunc_byte_byte.calls (A0 : Option Addr) (c0 : Nat) (l0 : List (List Int)) (a1 : Int) (r : Bool) (w : World) (hr0 : Kd.C (Kd.slice 5 (Kd.int .u8)) w A0 l0.length l0) (hc0 : l0.length ≤ c0) (h : slices_ContainsFunc_byte_byte.f l0 a1 = some r) :
    Calls Tryd.prog 108 #[.slice A0 l0.length c0, .func (.func 107) #[] #[]] w fun e w' => e = .returned (.bool r) ∧ Drawn0 w w' := by
  obtain rfl := Option.some.inj h
  have hb : (l0.length : Int) ≤ 9223372036854775807 := by have := hr0.2.1; omega
  go_enter Tryd.func108, Tryd.ntmps108
  go_wp2_with fail
  refine (index_long A0 c0 l0 w hr0 hb).mono ?_
  rintro e1 w1 ⟨i, rfl, hi, rfl⟩
  go_wp2_with fail
  go_ret
  exact ⟨by rw [← hi]; rfl, ⟨0, rfl⟩⟩
end Go.Proofs.YteamljekjncbfaaDoor.P
end
section
set_option linter.unusedVariables false
set_option linter.unusedSimpArgs false
namespace Go.Proofs.YteamljekjncbfaaDoor.P
open Go.RowKit Go.Proofs.YteamljekjncbfaaDoorW.PrintWords Go.Proofs.YteamljekjncbfaaDoorW.PrintLast Go.Proofs.YteamljekjncbfaaDoorW.PrintMore
def numRun : Nat → Int → List Int → List Int
  | 0, _, ys => ys
  | i + 1, x, ys => numRun i (x / 256) (ys.set i (x % 256))
def numBytes (n : Int) : List Int := numRun 8 n (List.replicate 8 0)
def texts_Number.f (a0 : Int) : Option (List Int) := some (numBytes a0)
end Go.Proofs.YteamljekjncbfaaDoor.P
end
section
set_option linter.unusedVariables false
set_option linter.unusedSimpArgs false
namespace Go.Proofs.YteamljekjncbfaaDoor.P
open Go.RowKit Go.Proofs.YteamljekjncbfaaDoorW.PrintWords Go.Proofs.YteamljekjncbfaaDoorW.PrintLast Go.Proofs.YteamljekjncbfaaDoorW.PrintMore
def slices_Clone_byte_byte.f (l0 : List Int) : Option (List Int) := if l0.length < 140737488355328 then some l0 else none
set_option maxHeartbeats 1000000 in
set_option maxRecDepth 100000 in
theorem slices_Clone_byte_byte.calls (A0 : Option Addr) (c0 : Nat) (l0 : List Int) (r : List Int) (w : World) (hr0 : Kd.C (Kd.int .u8) w A0 l0.length l0) (hc0 : l0.length ≤ c0) (h : slices_Clone_byte_byte.f l0 = some r) :
    Calls Tryd.prog 68 #[.slice A0 l0.length c0] w fun e w' => ∃ v0_ : Value, e = .returned (v0_) ∧ Kd.R (Kd.int .u8) 5 w' w.heap.size (fun _ => True) v0_ r ∧ Below w.heap.size w w' := by
  unfold slices_Clone_byte_byte.f at h
  split at h
  case isFalse => cases h
  case isTrue hb =>
    obtain rfl := Option.some.inj h
    have HR := Aside0.mk hr0
    clear h
    cases A0 with
    | none =>
      have h0 : l0.length = 0 := by
        by_cases h : 0 < l0.length
        · obtain ⟨ad, e, _⟩ := (Kd.reads_of_C (d := (0 : Int)) hr0).2.2 h
          cases e
        · omega
      obtain rfl := List.eq_nil_of_length_eq_zero h0
      clear hr0
      have hnil : ∀ W : World, (binOp .eql 33 (.slice none 0 c0) (.slice none 0 0)).run Tryd.prog W = .ok (.bool true) W := fun _ => by kernel_rfl
      go_enter Tryd.func68, Tryd.ntmps68
      go_wp2_with fail
      go_ret
      exact ⟨_, rfl, Kd.R_nil _ _ _ _ _, Below.refl _ _⟩
    | some ad =>
      clear hr0
      have hnil : ∀ W : World, (binOp .eql 33 (.slice (some ad) l0.length c0) (.slice none 0 0)).run Tryd.prog W = .ok (.bool false) W := fun _ => by kernel_rfl
      go_enter Tryd.func68, Tryd.ntmps68
      go_wp2_with (first | ((with_reducible refine gate_dst (N := 5) rfl ?_); refine Kd.R_lit (Kd.int .u8) _ 5 ?hg (N := 5) ?hd (xs := ([] : List Int)) (inner := []) (ok := fun _ => True) (okp := fun _ => True) ?hr ?hp (fun _ hk => hk) trivial (Below.refl _ _) (Nat.le_refl _) (by simp) ?_; (case hd => rfl); (case hg => rfl); (case hr => first | (go_simp; done) | (go_simp; rfl)); (case hp => exact (Reps.none _ _)); intro v1 w1 ho1 hb1 hg1 hn1; have HO1 := Aside0.mk ho1; have HB1 := Aside0.mk hb1; clear ho1 hb1 hg1 hn1) | ((with_reducible refine gate_builtin (b := .append) (xs := #[.tmp 5, .tmp 6]) rfl ?_); at_builtin; refine Kd.R_append_rows (Kd.int .u8) (w0 := w) w.heap.size rfl (.tmp 5) (.tmp 6) 33 5 (.int .u8 0) 1 rfl Tryd.underlying33 info5 rfl (by decide) (by omega) v1 [] l0 _ _ _ (fun _ => True) (fun _ => False) rfl rfl ?aO ?aR (fun _ _ h => h) (fun _ h => h.elim) ?aF ?aB ?aS ?aL ?_; (case aR => exact Kd.C_below HR.out HB1.out); (case aB => exact HB1.out); (case aF => exact (fun _ _ => trivial)); (case aO => exact HO1.out); (case aS => exact HB1.out.size); (case aL => simp; omega); intro v2 w2 ho hb2 hg hat; have HO2 := Aside0.mk ho; have HB2 := Aside0.mk hb2; clear ho hb2 hg hat))
      go_ret
      exact ⟨_, rfl, HO2.out, HB2.out⟩
end Go.Proofs.YteamljekjncbfaaDoor.P
end
section
set_option linter.unusedVariables false
set_option linter.unusedSimpArgs false
namespace Go.Proofs.YteamljekjncbfaaDoor.P
open Go.RowKit Go.Proofs.YteamljekjncbfaaDoorW.PrintWords Go.Proofs.YteamljekjncbfaaDoorW.PrintLast Go.Proofs.YteamljekjncbfaaDoorW.PrintMore
def bitBytes (n : Nat) : Nat := (n - 1) / 8 + 1
def cutByte (x : Int) (over : Int) : Int := Go.bits .and .u8 x (255 * 2 ^ (8 - over).toNat % 256)
def firstBits (l : List Int) (n : Nat) : List Int :=
  if n % 8 = 0 then l.take (bitBytes n) else (l.take (bitBytes n)).set (bitBytes n - 1) (cutByte ((l.take (bitBytes n)).getD (bitBytes n - 1) 0) ((n % 8 : Nat) : Int))
def firstB (l : List Int) (a : Int) : List Int := if 8 * (l.length : Int) ≤ a then l else if a < 1 then [] else firstBits l a.toNat
def bits_First.f (l0 : List Int) (a1 : Int) : Option (List Int) := if l0.length < 140737488355328 then some (firstB l0 a1) else none
end Go.Proofs.YteamljekjncbfaaDoor.P
end
section
namespace Go.Proofs.YteamljekjncbfaaDoor.P
open Go.RowKit Go.Proofs.YteamljekjncbfaaDoorW.PrintWords Go.Proofs.YteamljekjncbfaaDoorW.PrintLast Go.Proofs.YteamljekjncbfaaDoorW.PrintMore
attribute [local go_sem] max2_int min2_int max_two min_two max_three min_three max_four min_four
set_option linter.unusedVariables false
set_option linter.unusedSimpArgs false
def texts_Text.l0 : Nat → List Int → List (List Int) → Int → Int → Option (List Int × Int)
  | 0, _, _, _, _ => none
  | k + 1, x7, x22, x23, x24 => if x24 < x23 then (if 0 ≤ x24 then (if x24 < (x22.length : Int) then ((some (([(((rd_L1 x22 x24).length : Int) / 256) % 256, (((rd_L1 x22 x24).length : Int)) % 256] : List Int) : List Int)).bind fun y106 => (if x7.length + y106.length < 140737488355328 then ((some (x7 ++ y106 : List Int)).bind fun y109 => (if y109.length + (rd_L1 x22 x24).length < 140737488355328 then (texts_Text.l0 k (y109 ++ (rd_L1 x22 x24)) x22 x23 (wrap64 (x24 + 1))) else (none))) else (none))) else (none)) else (none)) else (some (x7, 0))
def texts_Text.f (k : Nat) (a0 : Int) (l1 : List (List Int)) : Option (List Int × Int) := if a0 = ((a0) % 256) then ((slices_ContainsFunc_byte_byte.f l1 107).bind fun t101 => (if t101 = true then (some (([] : List Int), 4)) else (texts_Text.l0 k (([(a0) % 256] : List Int)) l1 (l1.length : Int) 0))) else (some (([] : List Int), 1))
set_option maxHeartbeats 8000000 in
set_option maxRecDepth 100000 in
theorem texts_Text.calls (k : Nat) (a0 : Int) (A1 : Option Addr) (c1 : Nat) (l1 : List (List Int)) (r1 : List Int) (r2 : Int) (w : World) (hr1 : Kd.C (Kd.slice 5 (Kd.int .u8)) w A1 l1.length l1) (hc1 : l1.length ≤ c1) (h : texts_Text.f k a0 l1 = some (r1, r2)) :
    Calls Tryd.prog 89 #[.int .i64 a0, .slice A1 l1.length c1] w fun e w' => ∃ v0_ : Value, e = .returned (.tuple #[v0_, .int .i64 r2]) ∧ Kd.R (Kd.int .u8) 5 w' w.heap.size (fun _ => True) v0_ r1 ∧ Below w.heap.size w w' := by
  have HR1 := Aside0.mk hr1
  have HC1 := Aside0.mk hc1
  clear hr1 hc1
  have HB := Aside0.mk (Below.refl w.heap.size w)
  have H : (if a0 = ((a0) % 256) then ((slices_ContainsFunc_byte_byte.f l1 107).bind fun t101 => (if t101 = true then (some (([] : List Int), 4)) else (texts_Text.l0 k (([(a0) % 256] : List Int)) l1 (l1.length : Int) 0))) else (some (([] : List Int), 1))) = some (r1, r2) := h
  clear h
  by_cases c3 : a0 = ((a0) % 256)
  · rw [if_pos c3] at H
    have c3b0 : (a0 == ((a0) % 256)) = true := beq_iff_eq.mpr c3
    have c3b1 : (a0 != ((a0) % 256)) = false := bne_eq_false_iff_eq.mpr c3
    clear c3
    replace H := Option.bind_eq_some_iff.mp H
    obtain ⟨t101, A40, H⟩ := H
    replace H : (if t101 = true then (some (([] : List Int), 4)) else (texts_Text.l0 k (([(a0) % 256] : List Int)) l1 (l1.length : Int) 0)) = some (r1, r2) := H
    have A4 := Aside0.mk A40
    clear A40
    by_cases c5 : t101 = true
    · subst c5
      have H1 : (some (([] : List Int), 4)) = some (r1, r2) := by rw [if_pos rfl] at H; exact H
      clear H
      have H := H1
      clear H1
      simp only [Option.some.injEq, Prod.mk.injEq] at H
      obtain ⟨rfl, rfl⟩ := H
      go_enter Tryd.func89, Tryd.ntmps89
      go_wp2_with (first | ((with_reducible refine gate_callee (f := 108) rfl ?_); refine goesL_ (some 18) rfl rfl Tryd.func108 (by kernel_rfl) rfl #[.slice A1 l1.length c1, .func (.func 107) #[] #[]] rfl (by (try simp only [List.map_toArray, List.map_cons, List.map_nil]); first | done | rfl | (simp only [List.length_drop, List.length_take]; rfl)) ?_; (with_reducible refine (slices_ContainsFunc_byte_byte.calls _ _ l1 107 true _ ?side1 ?side2 A4.out).mono ?_); (case side1 => repeat (first | exact HR1.out | (with_reducible refine Kd.C_alloc ?_ _) | (with_reducible refine Kd.C_drewN ?_ _) | (with_reducible refine Kd.C_drew ?_))); (case side2 => exact HC1.out); rintro e w' ⟨rfl, ⟨nd, rfl⟩⟩; refine ⟨_, rfl, ?_⟩))
      go_ret2
      exact ⟨_, by first | rfl | (simp [errW_none, errW_some] <;> rfl) | (simp [*, errW_none, errW_some] <;> rfl), by first | exact Kd.R_nil _ _ _ _ _ | exact Kd.N_nil _ _ _ _ _ | exact Kd.V_nil _ _ _ _ _ | exact Kd.Q_nil _ _ _ _ _ | exact Kd.S_nil _ _ _ _ _, by repeat (first | (with_reducible first | exact HB.out | apply below_alloc | apply pw_below_drewN | apply below_drew1) | exact HB.out)⟩
    · replace c5 := Bool.eq_false_iff.mpr c5
      subst c5
      have H1 : (texts_Text.l0 k (([(a0) % 256] : List Int)) l1 (l1.length : Int) 0) = some (r1, r2) := by rw [if_neg (show ¬ (false = true) by decide)] at H; exact H
      clear H
      have H := H1
      clear H1
      obtain ⟨y102, hy102⟩ : ∃ y_ : List Int, y_ = (([(a0) % 256] : List Int)) := ⟨_, rfl⟩
      replace H : (texts_Text.l0 k y102 l1 (l1.length : Int) 0) = some (r1, r2) := by first | (rw [hy102]; with_reducible exact H) | (have H2_ := (Option.bind_some _ _).symm.trans H; rw [hy102]; with_reducible exact H2_) | (have H2_ := (Option.bind_some _ _).symm.trans H; with_reducible exact H2_) | with_reducible exact H | (rw [hy102]; exact H) | exact H
      have Ny102 := Aside0.mk hy102
      clear hy102
      have H' := Aside0.mk H
      clear H
      go_enter Tryd.func89, Tryd.ntmps89
      go_wp2_with (first | ((with_reducible refine gate_callee (f := 108) rfl ?_); refine goesL_ (some 18) rfl rfl Tryd.func108 (by kernel_rfl) rfl #[.slice A1 l1.length c1, .func (.func 107) #[] #[]] rfl (by (try simp only [List.map_toArray, List.map_cons, List.map_nil]); first | done | rfl | (simp only [List.length_drop, List.length_take]; rfl)) ?_; (with_reducible refine (slices_ContainsFunc_byte_byte.calls _ _ l1 107 false _ ?side1 ?side2 A4.out).mono ?_); (case side1 => repeat (first | exact HR1.out | (with_reducible refine Kd.C_alloc ?_ _) | (with_reducible refine Kd.C_drewN ?_ _) | (with_reducible refine Kd.C_drew ?_))); (case side2 => exact HC1.out); rintro e w' ⟨rfl, ⟨nd, rfl⟩⟩; refine ⟨_, rfl, ?_⟩) | ((with_reducible refine gate_dst (N := 21) rfl ?_); refine Kd.R_lit (Kd.int .u8) _ 5 ?hg (N := 21) ?hd (xs := ([(a0) % 256] : List Int)) (inner := [.int .u8 ((a0) % 256)]) (ok := fun _ => True) (okp := fun _ => True) ?hr ?hp (fun _ hk => hk) trivial (Below.refl _ _) (Nat.le_refl _) (by simp) ?_; (case hd => rfl); (case hg => rfl); (case hr => first | (go_simp; done) | (go_simp; rfl)); (case hp => exact (Reps.one (show Kd.M (Kd.int .u8) _ _ _ ((a0) % 256) [.int .u8 ((a0) % 256)] from rfl) (Reps.none _ _))); intro v103 w6 ho7 hb hg_ hnew_; clear hg_ hnew_; (first | rw [← Ny102.out] at ho7 | (simp only [Int.reduceToNat] at ho7; rw [← Ny102.out] at ho7)); have n0_ := Aside0.mk (Kd.R_lower ho7 (below_size (by repeat (first | (with_reducible first | exact HB.out | apply below_alloc | apply pw_below_drewN | apply below_drew1) | exact HB.out)))); have n1_ := Aside0.mk (below_step (by repeat (first | (with_reducible first | exact HB.out | apply below_alloc | apply pw_below_drewN | apply below_drew1) | exact HB.out)) hb); clear HB; have HO104 := n0_; have HB := n1_; clear n0_ n1_; clear hb ho7))
      go_loopg [7, 24] k (fun kq v7 v24 w' => ∃ (x7_1 : List Int) (x24_1 : Int), v24 = .int .i64 x24_1 ∧ Aside0 (texts_Text.l0 kq x7_1 l1 (l1.length : Int) x24_1 = some (r1, r2)) ∧ Aside0 (kq ≤ k) ∧ Aside0 (Kd.R (Kd.int .u8) 5 w' w.heap.size (fun _ => True) v7 x7_1) ∧ Aside0 (Below w.heap.size w w'))
      case atStart => exact ⟨(y102), (0), (by first | rfl | (simp; done) | (simp [*]; done)), H', ⟨Nat.le_refl _⟩, ⟨by (with_reducible repeat (first | apply Kd.R_alloc | apply Kd.R_drewN | apply Kd.R_drew)); exact HO104.out⟩, ⟨by repeat (first | (with_reducible first | exact HB.out | apply below_alloc | apply pw_below_drewN | apply below_drew1) | exact HB.out)⟩⟩
      case round =>
        clear H'
        try clear c1
        try clear p2
        try clear c3
        try clear c3b0
        try clear c3b1
        try clear c5
        obtain ⟨x7_1, x24_1, rfl, HA, HK1, HO_7, HB⟩ := hrel
        cases gk with
        | zero => exact absurd HA.out (by simp [texts_Text.l0])
        | succ k1 =>
          have H := HA.out
          clear HA
          simp only [texts_Text.l0] at H
          by_cases c8 : x24_1 < (l1.length : Int)
          · rw [if_pos c8] at H
            have c8b0 : decide (x24_1 < (l1.length : Int)) = true := decide_eq_true c8
            clear c8
            by_cases c9 : 0 ≤ x24_1
            · rw [if_pos c9] at H
              have c9b0 : decide (0 ≤ x24_1) = true := decide_eq_true c9
              clear c9
              by_cases c10 : x24_1 < (l1.length : Int)
              · rw [if_pos c10] at H
                have c10b0 : decide (x24_1 < (l1.length : Int)) = true := decide_eq_true c10
                clear c10
                obtain ⟨y106, hy106⟩ : ∃ y_ : List Int, y_ = (([(((rd_L1 l1 x24_1).length : Int) / 256) % 256, (((rd_L1 l1 x24_1).length : Int)) % 256] : List Int)) := ⟨_, rfl⟩
                replace H : (if x7_1.length + y106.length < 140737488355328 then ((some (x7_1 ++ y106 : List Int)).bind fun y109 => (if y109.length + (rd_L1 l1 x24_1).length < 140737488355328 then (texts_Text.l0 k1 (y109 ++ (rd_L1 l1 x24_1)) l1 (l1.length : Int) (wrap64 (x24_1 + 1))) else (none))) else (none)) = some (r1, r2) := by first | (rw [hy106]; with_reducible exact H) | (have H2_ := (Option.bind_some _ _).symm.trans H; rw [hy106]; with_reducible exact H2_) | (have H2_ := (Option.bind_some _ _).symm.trans H; with_reducible exact H2_) | with_reducible exact H | (rw [hy106]; exact H) | exact H
                have Ny106 := Aside0.mk hy106
                clear hy106
                by_cases c11 : x7_1.length + y106.length < 140737488355328
                · rw [if_pos c11] at H
                  have LMc11 := Aside0.mk c11
                  clear c11
                  obtain ⟨y109, hy109⟩ : ∃ y_ : List Int, y_ = (x7_1 ++ y106) := ⟨_, rfl⟩
                  replace H : (if y109.length + (rd_L1 l1 x24_1).length < 140737488355328 then (texts_Text.l0 k1 (y109 ++ (rd_L1 l1 x24_1)) l1 (l1.length : Int) (wrap64 (x24_1 + 1))) else (none)) = some (r1, r2) := by first | (rw [hy109]; with_reducible exact H) | (have H2_ := (Option.bind_some _ _).symm.trans H; rw [hy109]; with_reducible exact H2_) | (have H2_ := (Option.bind_some _ _).symm.trans H; with_reducible exact H2_) | with_reducible exact H | (rw [hy109]; exact H) | exact H
                  have Ny109 := Aside0.mk hy109
                  clear hy109
                  by_cases c12 : y109.length + (rd_L1 l1 x24_1).length < 140737488355328
                  · rw [if_pos c12] at H
                    have LMc12 := Aside0.mk c12
                    clear c12
                    obtain ⟨y112, hy112⟩ : ∃ y_ : List Int, y_ = (y109 ++ (rd_L1 l1 x24_1)) := ⟨_, rfl⟩
                    replace H : (texts_Text.l0 k1 y112 l1 (l1.length : Int) (wrap64 (x24_1 + 1))) = some (r1, r2) := by first | (rw [hy112]; with_reducible exact H) | (have H2_ := (Option.bind_some _ _).symm.trans H; rw [hy112]; with_reducible exact H2_) | (have H2_ := (Option.bind_some _ _).symm.trans H; with_reducible exact H2_) | with_reducible exact H | (rw [hy112]; exact H) | exact H
                    have Ny112 := Aside0.mk hy112
                    clear hy112
                    have H' := Aside0.mk H
                    clear H
                    have p105 : 0 ≤ (x24_1 : Int) := of_decide_eq_true (by first | (with_reducible assumption) | assumption)
                    have q105 : x24_1 < (l1.length : Int) := of_decide_eq_true (by first | (with_reducible assumption) | assumption)
                    obtain ⟨ad105, A105_0, c105_0, e105, hx105_0, hl105_0, hi105_0⟩ := at_L1 HR1.out x24_1 p105 q105
                    cases e105
                    replace hx105_0 := (HB.out.cell (World.block_lt_of_cell? w _ hx105_0)).trans hx105_0
                    have HR105_0 := Aside0.mk hi105_0
                    have HC105_0 := Aside0.mk hl105_0
                    clear hi105_0 hl105_0
                    replace p105 := eq_true p105
                    replace q105 := eq_true q105
                    go_wp2_with (first | ((with_reducible refine gate_dst (N := 36) rfl ?_); refine Kd.R_lit (Kd.int .u8) _ 5 ?hg (N := 36) ?hd (xs := ([(((rd_L1 l1 x24_1).length : Int) / 256) % 256, (((rd_L1 l1 x24_1).length : Int)) % 256] : List Int)) (inner := [.int .u8 ((((rd_L1 l1 x24_1).length : Int) / 256) % 256), .int .u8 ((((rd_L1 l1 x24_1).length : Int)) % 256)]) (ok := fun _ => True) (okp := fun _ => True) ?hr ?hp (fun _ hk => hk) trivial (Below.refl _ _) (Nat.le_refl _) (by simp) ?_; (case hd => rfl); (case hg => rfl); (case hr => first | (go_simp; done) | (go_simp; rfl)); (case hp => exact (Reps.one (show Kd.M (Kd.int .u8) _ _ _ ((((rd_L1 l1 x24_1).length : Int) / 256) % 256) [.int .u8 ((((rd_L1 l1 x24_1).length : Int) / 256) % 256)] from rfl) (Reps.one (show Kd.M (Kd.int .u8) _ _ _ ((((rd_L1 l1 x24_1).length : Int)) % 256) [.int .u8 ((((rd_L1 l1 x24_1).length : Int)) % 256)] from rfl) (Reps.none _ _)))); intro v107 w13 ho14 hb hg_ hnew_; clear hg_ hnew_; (first | rw [← Ny106.out] at ho14 | (simp only [Int.reduceToNat] at ho14; rw [← Ny106.out] at ho14)); have n0_ := Aside0.mk (Kd.R_elder' (by (with_reducible repeat (first | apply Kd.R_alloc | apply Kd.R_drewN | apply Kd.R_drew)); exact HO_7.out) (Kd.R_base ho14) hb); have n1_ := Aside0.mk (Kd.R_lower (Kd.R_new' ho14 (Kd.R_lt (by (with_reducible repeat (first | apply Kd.R_alloc | apply Kd.R_drewN | apply Kd.R_drew)); exact HO_7.out))) (below_size (by repeat (first | (with_reducible first | exact HB.out | apply below_alloc | apply pw_below_drewN | apply below_drew1) | exact HB.out)))); have n2_ := Aside0.mk (below_step (by repeat (first | (with_reducible first | exact HB.out | apply below_alloc | apply pw_below_drewN | apply below_drew1) | exact HB.out)) hb); clear HO_7; clear HB; have HO_7 := n0_; have HO108 := n1_; have HB := n2_; clear n0_ n1_ n2_; clear hb ho14; obtain ⟨Ao16, co16, eo16⟩ := Kd.R_slice HO108.out; subst eo16) | ((with_reducible refine gate_builtin (b := .append) (xs := #[.tmp 30, .tmp 36]) rfl ?_); at_builtin; refine Kd.R_append_rows (Kd.int .u8) (w0 := w) w.heap.size rfl (.tmp 30) (.tmp 36) 33 5 (.int .u8 0) 1 rfl Tryd.underlying33 info5 rfl (by decide) (by omega) u7 x7_1 y106 _ _ _ (fun k_ => some k_ ≠ (.slice Ao16 y106.length co16 : Value).ownBlock) (fun _ => False) rfl rfl ?aO ?aR (fun _ _ h => h) (fun _ h => h.elim) ?aF ?aB ?aS ?aL ?_; (case aR => repeat (first | exact (Kd.R_reads' HO108.out).2.2 | (with_reducible refine Kd.C_alloc ?_ _) | (with_reducible refine Kd.C_drewN ?_ _) | (with_reducible refine Kd.C_drew ?_))); (case aB => exact (by repeat (first | (with_reducible first | exact HB.out | apply below_alloc | apply pw_below_drewN | apply below_drew1) | exact HB.out))); (case aF => exact (fun k_ hk => Kd.fresh' (Kd.R_lt (by (with_reducible repeat (first | apply Kd.R_alloc | apply Kd.R_drewN | apply Kd.R_drew)); exact HO108.out)) k_ hk)); (case aO => exact (by (with_reducible repeat (first | apply Kd.R_alloc | apply Kd.R_drewN | apply Kd.R_drew)); exact Kd.R_mono HO_7.out (fun _ hk => hk.2))); (case aS => exact (below_size (by repeat (first | (with_reducible first | exact HB.out | apply below_alloc | apply pw_below_drewN | apply below_drew1) | exact HB.out)))); (case aL => have := LMc11.out; omega); intro v110 w15 ho hb hg hat; rw [← Ny109.out] at ho; have n0_ := Aside0.mk (Kd.R_after (ok := (fun _ => True)) (by (with_reducible repeat (first | apply Kd.R_alloc | apply Kd.R_drewN | apply Kd.R_drew)); exact HO108.out) hg hat); have n1_ := Aside0.mk (hb); have n2_ := Aside0.mk (ho); clear HO108; clear HB; clear HO_7; have HO108 := n0_; have HB := n1_; have HO111 := n2_; clear n0_ n1_ n2_; clear ho hb hg hat) | ((with_reducible refine gate_builtin (b := .append) (xs := #[.tmp 38, .tmp 39]) rfl ?_); at_builtin; refine Kd.R_append_rows (Kd.int .u8) (w0 := w) w.heap.size rfl (.tmp 38) (.tmp 39) 33 5 (.int .u8 0) 1 rfl Tryd.underlying33 info5 rfl (by decide) (by omega) v110 y109 (rd_L1 l1 x24_1) _ _ _ (fun k_ => some k_ ≠ (.slice Ao16 y106.length co16 : Value).ownBlock) (fun _ => False) rfl rfl ?aO ?aR (fun _ _ h => h) (fun _ h => h.elim) ?aF ?aB ?aS ?aL ?_; (case aR => repeat (first | exact (Kd.C_below HR105_0.out HB.out) | (with_reducible refine Kd.C_alloc ?_ _) | (with_reducible refine Kd.C_drewN ?_ _) | (with_reducible refine Kd.C_drew ?_))); (case aB => exact (by repeat (first | (with_reducible first | exact HB.out | apply below_alloc | apply pw_below_drewN | apply below_drew1) | exact HB.out))); (case aF => exact (fun k_ hk => Kd.fresh' (Kd.R_lt (by (with_reducible repeat (first | apply Kd.R_alloc | apply Kd.R_drewN | apply Kd.R_drew)); exact HO108.out)) k_ hk)); (case aO => exact (by (with_reducible repeat (first | apply Kd.R_alloc | apply Kd.R_drewN | apply Kd.R_drew)); exact HO111.out)); (case aS => exact (below_size (by repeat (first | (with_reducible first | exact HB.out | apply below_alloc | apply pw_below_drewN | apply below_drew1) | exact HB.out)))); (case aL => have := LMc12.out; omega); intro v113 w17 ho hb hg hat; rw [← Ny112.out] at ho; have n0_ := Aside0.mk (Kd.R_after (ok := (fun _ => True)) (by (with_reducible repeat (first | apply Kd.R_alloc | apply Kd.R_drewN | apply Kd.R_drew)); exact HO108.out) hg hat); have n1_ := Aside0.mk (hb); have n2_ := Aside0.mk (ho); clear HO108; clear HB; clear HO111; have HO108 := n0_; have HB := n1_; have HO114 := n2_; clear n0_ n1_ n2_; clear ho hb hg hat))
                    go_roundg k1
                    case measure => have := HK1.out; omega
                    case rel => exact ⟨(y112), (wrap64 (x24_1 + 1)), (by first | rfl | (simp; done) | (simp [*]; done)), H', ⟨by have := HK1.out; omega⟩, ⟨by (with_reducible repeat (first | apply Kd.R_alloc | apply Kd.R_drewN | apply Kd.R_drew)); exact Kd.R_mono HO114.out (fun _ hk => trivial)⟩, ⟨by repeat (first | (with_reducible first | exact HB.out | apply below_alloc | apply pw_below_drewN | apply below_drew1) | exact HB.out)⟩⟩
                  · rw [if_neg c12] at H
                    exact absurd H (by simp)
                · rw [if_neg c11] at H
                  exact absurd H (by simp)
              · rw [if_neg c10] at H
                exact absurd H (by simp)
            · rw [if_neg c9] at H
              exact absurd H (by simp)
          · rw [if_neg c8] at H
            have c8b0 : decide (x24_1 < (l1.length : Int)) = false := decide_eq_false c8
            clear c8
            simp only [Option.some.injEq, Prod.mk.injEq] at H
            obtain ⟨rfl, rfl⟩ := H
            go_wp2
            go_ret2
            exact ⟨_, by first | rfl | (simp [errW_none, errW_some] <;> rfl) | (simp [*, errW_none, errW_some] <;> rfl), by (with_reducible repeat (first | apply Kd.R_alloc | apply Kd.R_drewN | apply Kd.R_drew)); exact HO_7.out, by repeat (first | (with_reducible first | exact HB.out | apply below_alloc | apply pw_below_drewN | apply below_drew1) | exact HB.out)⟩
  · rw [if_neg c3] at H
    have c3b0 : (a0 == ((a0) % 256)) = false := beq_eq_false_iff_ne.mpr c3
    have c3b1 : (a0 != ((a0) % 256)) = true := bne_iff_ne.mpr c3
    simp only [Option.some.injEq, Prod.mk.injEq] at H
    obtain ⟨rfl, rfl⟩ := H
    go_enter Tryd.func89, Tryd.ntmps89
    go_wp2
    go_ret2
    exact ⟨_, by first | rfl | (simp [errW_none, errW_some] <;> rfl) | (simp [*, errW_none, errW_some] <;> rfl), by first | exact Kd.R_nil _ _ _ _ _ | exact Kd.N_nil _ _ _ _ _ | exact Kd.V_nil _ _ _ _ _ | exact Kd.Q_nil _ _ _ _ _ | exact Kd.S_nil _ _ _ _ _, by repeat (first | (with_reducible first | exact HB.out | apply below_alloc | apply pw_below_drewN | apply below_drew1) | exact HB.out)⟩
end Go.Proofs.YteamljekjncbfaaDoor.P
end
