/- Lemmas of this claim, part 9. -/
import Derived.Test.YtbedgjjiinhpkaaDoorPartOne3
import Derived.Test.YtbedgjjiinhpkaaDoorPartOne8
import Derived.Test.YtbedgjjiinhpkaaDoorPartOne2
section
set_option linter.unusedVariables false
set_option linter.unusedSimpArgs false
namespace Go.Proofs.YtbedgjjiinhpkaaDoor.Pure
open Go.RowKit Go.Proofs.YtbedgjjiinhpkaaDoor.P Go.Proofs.YtbedgjjiinhpkaaDoorW.PrintWords Go.Proofs.YtbedgjjiinhpkaaDoorW.PrintLast Go.Proofs.YtbedgjjiinhpkaaDoorW.PrintMore
def downB : Nat → Nat → List Int
  | 0, _ => []
  | i + 1, n => ((n / 256 ^ i % 256 : Nat) : Int) :: downB i n
theorem downB_length (i n : Nat) : (downB i n).length = i := by
  induction i with
  | zero => rfl
  | succ i ih => simp [downB, ih]
theorem downB_snoc (w n : Nat) : downB (w + 1) n = downB w (n / 256) ++ [((n % 256 : Nat) : Int)] := by
  induction w with
  | zero => simp [downB]
  | succ w ih =>
    rw [show downB (w + 1 + 1) n = ((n / 256 ^ (w + 1) % 256 : Nat) : Int) :: downB (w + 1) n from rfl, ih]
    rw [show downB (w + 1) (n / 256) = ((n / 256 / 256 ^ w % 256 : Nat) : Int) :: downB w (n / 256) from rfl, Nat.div_div_eq_div_mul, Nat.pow_succ, Nat.mul_comm]
    rfl
theorem downB_ok (w n : Nat) : BytesOk (downB w n) := by
  induction w with
  | zero => intro x hx; cases hx
  | succ w ih =>
    intro x hx
    rcases List.mem_cons.1 hx with rfl | h
    · omega
    · exact ih x h
def wide (n : Nat) : Nat := (bl n + 7) / 8
theorem pow8 (j : Nat) : 256 ^ j = p2 (8 * j) := by unfold p2; rw [Nat.pow_mul]
theorem wide_lt (n : Nat) (h : n < 9223372036854775808) : n < 256 ^ wide n ∧ wide n ≤ 8 := by
  by_cases h0 : n = 0
  · subst h0
    unfold wide
    rw [bl_zero]
    decide
  · have hb := bl_spec n (by omega) h
    rw [pow8]
    unfold wide
    have := p2_mono (show bl n ≤ 8 * ((bl n + 7) / 8) by omega)
    exact ⟨by omega, by omega⟩
theorem wide_le (n i : Nat) (h : n < 9223372036854775808) (hi : i < wide n) : 256 ^ i ≤ n := by
  by_cases h0 : n = 0
  · subst h0
    unfold wide at hi
    rw [bl_zero] at hi
    omega
  · have hb := bl_spec n (by omega) h
    rw [pow8]
    unfold wide at hi
    have := p2_mono (show 8 * i ≤ bl n - 1 by omega)
    omega
def uintB (b : List Int) (n : Nat) : List Int := b ++ [(wide n : Int)] ++ downB (wide n) n
theorem uintB_length (b : List Int) (n : Nat) (h : n < 9223372036854775808) : (uintB b n).length ≤ b.length + 9 := by
  have := (wide_lt n h).2
  unfold uintB
  simp only [List.length_append, List.length_cons, List.length_nil, downB_length]
  omega
theorem uintB_ok (b : List Int) (n : Nat) (h : n < 9223372036854775808) (hb : BytesOk b) : BytesOk (uintB b n) := by
  have := (wide_lt n h).2
  intro x hx
  unfold uintB at hx
  rcases List.mem_append.1 hx with h1 | h1
  · rcases List.mem_append.1 h1 with h2 | h2
    · exact hb x h2
    · obtain rfl := List.mem_singleton.1 h2
      omega
  · exact downB_ok _ _ x h1
def bytesB (b s : List Int) : List Int := uintB b s.length ++ s
theorem bytesB_ok (b s : List Int) (h : s.length < 9223372036854775808) (hb : BytesOk b) (hs : BytesOk s) : BytesOk (bytesB b s) := by
  intro x hx
  rcases List.mem_append.1 hx with h1 | h1
  · exact uintB_ok _ _ h hb x h1
  · exact hs x h1
theorem bytesB_length (b s : List Int) (h : s.length < 9223372036854775808) : (bytesB b s).length ≤ b.length + 9 + s.length := by
  have := uintB_length b s.length h
  unfold bytesB
  rw [List.length_append]
  omega
theorem uint_l0 (n : Nat) (hn : n < 9223372036854775808) : ∀ (i k : Nat) (acc : List Int), i ≤ 8 → i < k → acc.length + i < 140737488355328 →
    codec_Uint.l0 k (n : Int) acc ((i : Int) - 1) = some (acc ++ downB i n) := by
  intro i
  induction i with
  | zero =>
    intro k acc _ hk _
    obtain ⟨k, rfl⟩ : ∃ m, k = m + 1 := ⟨k - 1, by omega⟩
    simp only [codec_Uint.l0]
    rw [if_neg (by omega)]
    simp [downB]
  | succ i ih =>
    intro k acc hi hk ha
    obtain ⟨k, rfl⟩ : ∃ m, k = m + 1 := ⟨k - 1, by omega⟩
    simp only [codec_Uint.l0]
    have e1 : (((i + 1 : Nat) : Int) - 1) = (i : Int) := by omega
    have e2 : wrap64 (8 * (i : Int)) = ((8 * i : Nat) : Int) := by rw [wrap64_id _ (by omega)]; omega
    have e3 : wrap64 ((i : Int) - 1) = (i : Int) - 1 := wrap64_id _ (by omega)
    have e4 : shr .i64 (n : Int) ((8 * i : Nat) : Int) % 256 = ((n / 256 ^ i % 256 : Nat) : Int) := by
      unfold shr
      rw [Int.toNat_natCast, Nat.min_eq_left (by simp only [IntKind.bits]; omega), pow8]
      unfold p2
      rw [Int.natCast_emod, Int.natCast_ediv, Int.natCast_pow]
      rfl
    rw [e1, if_pos (by omega), e2, if_pos (by omega), if_pos (by omega), e3, e4, ih k _ (by omega) (by omega) (by simp; omega)]
    simp [downB]
theorem uint_f (b : List Int) (a : Int) (hb : b.length < 100000000000) (k : Nat) (hk : 9 < k) : codec_Uint.f k b a = some (uintB b (mn (mx a 0) 4611686018427387904).toNat) := by
  obtain ⟨n, hn⟩ : ∃ n : Nat, (n : Int) = mn (mx a 0) 4611686018427387904 := ⟨(mn (mx a 0) 4611686018427387904).toNat, by unfold mn mx; split <;> split <;> omega⟩
  have hn2 : n < 9223372036854775808 := by
    have : (n : Int) ≤ 4611686018427387904 := by rw [hn]; unfold mn; split <;> omega
    omega
  unfold codec_Uint.f
  rw [← hn]
  have hl := len_f n hn2
  rw [show IntKind.u64.wrap (n : Int) = (n : Int) from by rw [IntKind.wrap_u64]; omega] at hl
  rw [hl]
  unfold slices_Clone_byte_byte.f
  rw [if_pos (by omega)]
  simp only [Option.bind_some]
  have hw := (wide_lt n hn2).2
  have hb2 : bl n ≤ 64 := by unfold wide at hw; omega
  have e : wrap64 (Int.tdiv (wrap64 ((bl n : Int) + 7)) 8) = (wide n : Int) := by
    have e0 : wrap64 ((bl n : Int) + 7) = (bl n : Int) + 7 := wrap64_id _ (by omega)
    rw [e0, Int.tdiv_eq_ediv_of_nonneg (by omega), wrap64_id _ (by omega)]
    unfold wide
    omega
  rw [e, if_pos (by omega), wrap64_id _ (by omega), show (wide n : Int) % 256 = (wide n : Int) by omega, uint_l0 n hn2 (wide n) k _ hw (by omega) (by simp; omega), Int.toNat_natCast]
  rfl
theorem ruint_l0 (b : List Int) (hb : b.length < 100000000000) : ∀ (w n k : Nat) (acc : List Int), n < 256 ^ w → (∀ i, i < w → 256 ^ i ≤ n) → w < k → acc.length + w < 200 →
    annalsref04_Uint.l0 k b (n : Int) acc = some (b ++ [(((w + acc.length : Nat) : Int)) % 256] ++ (downB w n ++ acc)) := by
  intro w
  induction w with
  | zero =>
    intro n k acc hn _ hk ha
    obtain ⟨k, rfl⟩ : ∃ m, k = m + 1 := ⟨k - 1, by omega⟩
    obtain rfl : n = 0 := by simpa using hn
    simp only [annalsref04_Uint.l0]
    rw [if_neg (by omega)]
    simp only [Option.bind_some]
    rw [if_pos (by simp; omega), if_pos (by simp; omega), if_pos (by simp; omega)]
    simp [downB]
  | succ w ih =>
    intro n k acc hn hm hk ha
    obtain ⟨k, rfl⟩ : ∃ m, k = m + 1 := ⟨k - 1, by omega⟩
    have h0 : 0 < n := by
      have := hm w (by omega)
      have := Nat.pow_pos (n := w) (show 0 < 256 by decide)
      omega
    simp only [annalsref04_Uint.l0]
    rw [if_pos (by omega)]
    simp only [Option.bind_some]
    rw [if_pos (by simp; omega), show (n : Int) / 256 = ((n / 256 : Nat) : Int) by omega]
    have := ih (n / 256) k ([(n : Int) % 256] ++ acc) (by rw [Nat.pow_succ] at hn; omega) (fun i hi => by
      have := hm (i + 1) (by omega)
      rw [Nat.pow_succ] at this
      omega) (by omega) (by simp; omega)
    rw [this, downB_snoc, show (n : Int) % 256 = ((n % 256 : Nat) : Int) by omega]
    congr 2
    · congr 3
      simp
      omega
    · simp
theorem ruint_f (b : List Int) (a : Int) (hb : b.length < 100000000000) (k : Nat) (hk : 9 < k) : annalsref04_Uint.f k b a = some (uintB b (mn (mx a 0) 4611686018427387904).toNat) := by
  obtain ⟨n, hn⟩ : ∃ n : Nat, (n : Int) = mn (mx a 0) 4611686018427387904 := ⟨(mn (mx a 0) 4611686018427387904).toNat, by unfold mn mx; split <;> split <;> omega⟩
  have hn2 : n < 9223372036854775808 := by
    have : (n : Int) ≤ 4611686018427387904 := by rw [hn]; unfold mn; split <;> omega
    omega
  unfold annalsref04_Uint.f
  have e : mx 0 (mn a 4611686018427387904) = (n : Int) := by
    rw [hn]
    unfold mx mn
    split <;> split <;> (try split) <;> (try split) <;> omega
  have hw := wide_lt n hn2
  rw [e, ruint_l0 b hb (wide n) n k [] hw.1 (fun i hi => wide_le n i hn2 hi) (by omega) (by simp; omega), ← hn, Int.toNat_natCast]
  unfold uintB
  simp only [List.length_nil, Nat.add_zero, List.append_nil]
  rw [show (wide n : Int) % 256 = (wide n : Int) by omega]
theorem bytes_f (b s : List Int) (hb : b.length < 100000000000) (hs : s.length < 100000000000) (k : Nat) (hk : 9 < k) : codec_Bytes.f k b s = some (bytesB b s) := by
  unfold codec_Bytes.f
  have e : (mn (mx (s.length : Int) 0) 4611686018427387904).toNat = s.length := by unfold mn mx; split <;> split <;> omega
  rw [uint_f b _ hb k hk, e]
  simp only [Option.bind_some]
  have := uintB_length b s.length (by omega)
  rw [if_pos (by omega)]
  rfl
theorem rbytes_f (b s : List Int) (hb : b.length < 100000000000) (hs : s.length < 100000000000) (k : Nat) (hk : 9 < k) : annalsref04_Bytes.f k b s = some (bytesB b s) := by
  unfold annalsref04_Bytes.f
  have e : (mn (mx (s.length : Int) 0) 4611686018427387904).toNat = s.length := by unfold mn mx; split <;> split <;> omega
  rw [ruint_f b _ hb k hk, e]
  simp only [Option.bind_some]
  have := uintB_length b s.length (by omega)
  rw [if_pos (by omega)]
  rfl
end Go.Proofs.YtbedgjjiinhpkaaDoor.Pure
end
section
namespace Go.Proofs.YtbedgjjiinhpkaaDoor.P
open Go.RowKit Go.Proofs.YtbedgjjiinhpkaaDoorW.PrintWords Go.Proofs.YtbedgjjiinhpkaaDoorW.PrintLast Go.Proofs.YtbedgjjiinhpkaaDoorW.PrintMore
attribute [local go_sem] max2_int min2_int max_two min_two max_three min_three max_four min_four
set_option linter.unusedVariables false
set_option linter.unusedSimpArgs false
def record_links.f (a0 : Int) : Option (Int) := if a0 < 1 then (some 0) else ((bits_TrailingZeros.f (IntKind.u64.wrap (a0))).bind fun t249 => (some (wrap64 (t249 + 1))))
set_option maxHeartbeats 8000000 in
set_option maxRecDepth 100000 in
theorem record_links.calls (a0 : Int) (r : Int) (w : World) (hGT : GlobT w) (h : record_links.f a0 = some r) :
    Calls Tryd.prog 156 #[.int .i64 a0] w fun e w' => e = .returned (.int .i64 r) ∧ Drawn0 w w' := by
  have HGT := Aside0.mk hGT
  clear hGT
  have H : (if a0 < 1 then (some 0) else ((bits_TrailingZeros.f (IntKind.u64.wrap (a0))).bind fun t249 => (some (wrap64 (t249 + 1))))) = some r := h
  clear h
  by_cases c2 : a0 < 1
  · rw [if_pos c2] at H
    have c2b0 : decide (a0 < 1) = true := decide_eq_true c2
    clear c2
    obtain rfl := Option.some.inj H
    go_enter Tryd.func156, Tryd.ntmps156
    go_wp2
    go_ret
    exact ⟨by first | rfl | (simp; done) | (simp [*]; done), by repeat (first | exact Drawn0.refl _ | apply Drawn0.step)⟩
  · rw [if_neg c2] at H
    have c2b0 : decide (a0 < 1) = false := decide_eq_false c2
    clear c2
    replace H := Option.bind_eq_some_iff.mp H
    obtain ⟨t249, A30, H⟩ := H
    replace H : (some (wrap64 (t249 + 1))) = some r := H
    have A3 := Aside0.mk A30
    clear A30
    obtain rfl := Option.some.inj H
    go_enter Tryd.func156, Tryd.ntmps156
    go_wp2_with (first | ((with_reducible refine gate_callee (f := 79) rfl ?_); refine goesL_ (some 7) rfl rfl Tryd.func79 (by kernel_rfl) rfl #[.int .u64 (IntKind.u64.wrap (a0))] rfl (by (try simp only [List.map_toArray, List.map_cons, List.map_nil]); first | done | rfl | (simp only [List.length_drop, List.length_take]; rfl)) ?_; (with_reducible refine (bits_TrailingZeros.calls (IntKind.u64.wrap (a0)) t249 _ (by first | (with_reducible exact HGT.out) | exact GlobT.of HGT.out (by repeat (first | (with_reducible first | exact HB.out | apply below_alloc | apply pw_below_drewN | apply below_drew1) | exact HB.out)) | exact GlobT.of HGT.out (by repeat (first | exact Below.refl _ _ | apply below_alloc | apply pw_below_drewN | apply below_drew1))) A3.out).mono ?_); rintro e w' ⟨rfl, ⟨nd, rfl⟩⟩; refine ⟨_, rfl, ?_⟩))
    go_ret
    exact ⟨by first | rfl | (simp; done) | (simp [*]; done), by repeat (first | exact Drawn0.refl _ | apply Drawn0.step)⟩
end Go.Proofs.YtbedgjjiinhpkaaDoor.P
end
section
namespace Go.Proofs.YtbedgjjiinhpkaaDoor.P
open Go.RowKit Go.Proofs.YtbedgjjiinhpkaaDoorW.PrintWords Go.Proofs.YtbedgjjiinhpkaaDoorW.PrintLast Go.Proofs.YtbedgjjiinhpkaaDoorW.PrintMore
attribute [local go_sem] max2_int min2_int max_two min_two max_three min_three max_four min_four
set_option linter.unusedVariables false
set_option linter.unusedSimpArgs false
def record_sized.l0 : Nat → Int → List (List Int) → Int → Int → Option (Bool)
  | 0, _, _, _, _ => none
  | k + 1, x0, x7, x8, x9 => if x9 < x8 then (if 0 ≤ x9 then (if x9 < (x7.length : Int) then (if ((rd_L1 x7 x9).length : Int) = x0 then (record_sized.l0 k x0 x7 x8 (wrap64 (x9 + 1))) else (some false)) else (none)) else (none)) else (some true)
def record_sized.f (k : Nat) (a0 : Int) (l1 : List (List Int)) : Option (Bool) := record_sized.l0 k a0 l1 (l1.length : Int) 0
set_option maxHeartbeats 8000000 in
set_option maxRecDepth 100000 in
theorem record_sized.calls (k : Nat) (a0 : Int) (A1 : Option Addr) (c1 : Nat) (l1 : List (List Int)) (r : Bool) (w : World) (hr1 : Kd.C (Kd.slice 5 (Kd.int .u8)) w A1 l1.length l1) (hc1 : l1.length ≤ c1) (h : record_sized.f k a0 l1 = some r) :
    Calls Tryd.prog 155 #[.int .i64 a0, .slice A1 l1.length c1] w fun e w' => e = .returned (.bool r) ∧ Drawn0 w w' := by
  have HR1 := Aside0.mk hr1
  have HC1 := Aside0.mk hc1
  clear hr1 hc1
  have H : (record_sized.l0 k a0 l1 (l1.length : Int) 0) = some r := h
  clear h
  have H' := Aside0.mk H
  clear H
  go_enter Tryd.func155, Tryd.ntmps155
  go_wp2
  go_loopg [9] k (fun kq v9 w' => ∃ (x9_1 : Int), v9 = .int .i64 x9_1 ∧ Aside0 (record_sized.l0 kq a0 l1 (l1.length : Int) x9_1 = some r) ∧ Aside0 (kq ≤ k) ∧ Drawn0 w w')
  case atStart => exact ⟨(0), (by first | rfl | (simp; done) | (simp [*]; done)), H', ⟨Nat.le_refl _⟩, by repeat (first | exact Drawn0.refl _ | apply Drawn0.step)⟩
  case round =>
    clear H'
    try clear c1
    try clear p2
    obtain ⟨x9_1, rfl, HA, HK1, ⟨m1, rfl⟩⟩ := hrel
    cases gk with
    | zero => exact absurd HA.out (by simp [record_sized.l0])
    | succ k1 =>
      have H := HA.out
      clear HA
      simp only [record_sized.l0] at H
      by_cases c3 : x9_1 < (l1.length : Int)
      · rw [if_pos c3] at H
        have c3b0 : decide (x9_1 < (l1.length : Int)) = true := decide_eq_true c3
        clear c3
        by_cases c4 : 0 ≤ x9_1
        · rw [if_pos c4] at H
          have c4b0 : decide (0 ≤ x9_1) = true := decide_eq_true c4
          clear c4
          by_cases c5 : x9_1 < (l1.length : Int)
          · rw [if_pos c5] at H
            have c5b0 : decide (x9_1 < (l1.length : Int)) = true := decide_eq_true c5
            clear c5
            by_cases c6 : ((rd_L1 l1 x9_1).length : Int) = a0
            · rw [if_pos c6] at H
              have c6b0 : (((rd_L1 l1 x9_1).length : Int) == a0) = true := beq_iff_eq.mpr c6
              have c6b1 : (((rd_L1 l1 x9_1).length : Int) != a0) = false := bne_eq_false_iff_eq.mpr c6
              clear c6
              have H' := Aside0.mk H
              clear H
              have p248 : 0 ≤ (x9_1 : Int) := of_decide_eq_true (by first | (with_reducible assumption) | assumption)
              have q248 : x9_1 < (l1.length : Int) := of_decide_eq_true (by first | (with_reducible assumption) | assumption)
              obtain ⟨ad248, A248_0, c248_0, e248, hx248_0, hl248_0, hi248_0⟩ := at_L1 HR1.out x9_1 p248 q248
              cases e248
              have HR248_0 := Aside0.mk hi248_0
              have HC248_0 := Aside0.mk hl248_0
              clear hi248_0 hl248_0
              replace p248 := eq_true p248
              replace q248 := eq_true q248
              go_wp2
              go_roundg k1
              case measure => have := HK1.out; omega
              case rel => exact ⟨(wrap64 (x9_1 + 1)), (by first | rfl | (simp; done) | (simp [*]; done)), H', ⟨by have := HK1.out; omega⟩, by repeat (first | exact Drawn0.refl _ | apply Drawn0.step)⟩
            · rw [if_neg c6] at H
              have c6b0 : (((rd_L1 l1 x9_1).length : Int) == a0) = false := beq_eq_false_iff_ne.mpr c6
              have c6b1 : (((rd_L1 l1 x9_1).length : Int) != a0) = true := bne_iff_ne.mpr c6
              obtain rfl := Option.some.inj H
              have p248 : 0 ≤ (x9_1 : Int) := of_decide_eq_true (by first | (with_reducible assumption) | assumption)
              have q248 : x9_1 < (l1.length : Int) := of_decide_eq_true (by first | (with_reducible assumption) | assumption)
              obtain ⟨ad248, A248_0, c248_0, e248, hx248_0, hl248_0, hi248_0⟩ := at_L1 HR1.out x9_1 p248 q248
              cases e248
              have HR248_0 := Aside0.mk hi248_0
              have HC248_0 := Aside0.mk hl248_0
              clear hi248_0 hl248_0
              replace p248 := eq_true p248
              replace q248 := eq_true q248
              go_wp2
              go_ret
              exact ⟨by first | rfl | (simp; done) | (simp [*]; done), by repeat (first | exact Drawn0.refl _ | apply Drawn0.step)⟩
          · rw [if_neg c5] at H
            exact absurd H (by simp)
        · rw [if_neg c4] at H
          exact absurd H (by simp)
      · rw [if_neg c3] at H
        have c3b0 : decide (x9_1 < (l1.length : Int)) = false := decide_eq_false c3
        clear c3
        obtain rfl := Option.some.inj H
        go_wp2
        go_ret
        exact ⟨by first | rfl | (simp; done) | (simp [*]; done), by repeat (first | exact Drawn0.refl _ | apply Drawn0.step)⟩
end Go.Proofs.YtbedgjjiinhpkaaDoor.P
end
section
namespace Go.Proofs.YtbedgjjiinhpkaaDoor.P
open Go.RowKit Go.Proofs.YtbedgjjiinhpkaaDoorW.PrintWords Go.Proofs.YtbedgjjiinhpkaaDoorW.PrintLast Go.Proofs.YtbedgjjiinhpkaaDoorW.PrintMore
attribute [local go_sem] max2_int min2_int max_two min_two max_three min_three max_four min_four
set_option linter.unusedVariables false
set_option linter.unusedSimpArgs false
def record_within.f (a0 : Int) (a1 : Int) : Option (Bool) := if a0 ≥ 0 then (some (decide (a0 ≤ a1))) else (some false)
set_option maxHeartbeats 8000000 in
set_option maxRecDepth 100000 in
theorem record_within.calls (a0 : Int) (a1 : Int) (r : Bool) (w : World) (h : record_within.f a0 a1 = some r) :
    Calls Tryd.prog 154 #[.int .i64 a0, .int .i64 a1] w fun e w' => e = .returned (.bool r) ∧ Drawn0 w w' := by
  have H : (if a0 ≥ 0 then (some (decide (a0 ≤ a1))) else (some false)) = some r := h
  clear h
  by_cases c3 : a0 ≥ 0
  · rw [if_pos c3] at H
    have c3b0 : decide (0 ≤ a0) = true := decide_eq_true c3
    clear c3
    obtain rfl := Option.some.inj H
    go_enter Tryd.func154, Tryd.ntmps154
    go_wp2
    go_ret
    exact ⟨by first | rfl | (simp; done) | (simp [*]; done), by repeat (first | exact Drawn0.refl _ | apply Drawn0.step)⟩
  · rw [if_neg c3] at H
    have c3b0 : decide (0 ≤ a0) = false := decide_eq_false c3
    clear c3
    obtain rfl := Option.some.inj H
    go_enter Tryd.func154, Tryd.ntmps154
    go_wp2
    go_ret
    exact ⟨by first | rfl | (simp; done) | (simp [*]; done), by repeat (first | exact Drawn0.refl _ | apply Drawn0.step)⟩
end Go.Proofs.YtbedgjjiinhpkaaDoor.P
end
