/- Lemmas of this claim, part 3. -/
import Derived.Test.YteamljekjncbfaaDoorPartSeekOne2
import Derived.WalkSpells
import Derived.WalkLawsBesides
import Derived.Deep.RegionHeld3
import Derived.IntWalk
import Derived.StillTailTactics
section
namespace Go.Proofs.YteamljekjncbfaaDoor.P
open Go.RowKit Go.Proofs.YteamljekjncbfaaDoorW.PrintWords Go.Proofs.YteamljekjncbfaaDoorW.PrintLast Go.Proofs.YteamljekjncbfaaDoorW.PrintMore
attribute [local go_sem] max2_int min2_int max_two min_two max_three min_three max_four min_four
set_option linter.unusedVariables false
set_option linter.unusedSimpArgs false
def bits_RotateLeft32.f (a0 : Int) (a1 : Int) : Option (Int) := if 0 ≤ (Go.bits .and .u64 (IntKind.u64.wrap (a1)) 31) then (if 0 ≤ (IntKind.u64.wrap (32 - (Go.bits .and .u64 (IntKind.u64.wrap (a1)) 31))) then (some (Go.bits .or .u32 (shl .u32 a0 (Go.bits .and .u64 (IntKind.u64.wrap (a1)) 31)) (shr .u32 a0 (IntKind.u64.wrap (32 - (Go.bits .and .u64 (IntKind.u64.wrap (a1)) 31)))))) else (none)) else (none)
set_option maxHeartbeats 8000000 in
set_option maxRecDepth 100000 in
theorem bits_RotateLeft32.calls (a0 : Int) (a1 : Int) (r : Int) (w : World) (h : bits_RotateLeft32.f a0 a1 = some r) :
    Calls Tryd.prog 125 #[.int .u32 a0, .int .i64 a1] w fun e w' => e = .returned (.int .u32 r) ∧ Drawn0 w w' := by
  have H : (if 0 ≤ (Go.bits .and .u64 (IntKind.u64.wrap (a1)) 31) then (if 0 ≤ (IntKind.u64.wrap (32 - (Go.bits .and .u64 (IntKind.u64.wrap (a1)) 31))) then (some (Go.bits .or .u32 (shl .u32 a0 (Go.bits .and .u64 (IntKind.u64.wrap (a1)) 31)) (shr .u32 a0 (IntKind.u64.wrap (32 - (Go.bits .and .u64 (IntKind.u64.wrap (a1)) 31)))))) else (none)) else (none)) = some r := h
  clear h
  obtain ⟨ji3, hji3⟩ : ∃ j_ : Int, (Go.bits .and .u64 (IntKind.u64.wrap (a1)) 31) = j_ := ⟨_, rfl⟩
  replace H : (if 0 ≤ (ji3) then (if 0 ≤ (IntKind.u64.wrap (32 - (ji3))) then (some (Go.bits .or .u32 (shl .u32 a0 (ji3)) (shr .u32 a0 (IntKind.u64.wrap (32 - (ji3)))))) else (none)) else (none)) = some r := by first | (rw [hji3] at H; exact H) | (simp only [hji3] at H ⊢; exact H)
  by_cases c4 : 0 ≤ (ji3)
  · rw [if_pos c4] at H
    have c4b0 := eq_true c4
    have c4b1 : decide (0 ≤ (ji3)) = true := decide_eq_true c4
    clear c4
    obtain ⟨ji5, hji5⟩ : ∃ j_ : Int, (shl .u32 a0 (ji3)) = j_ := ⟨_, rfl⟩
    replace H : (if 0 ≤ (IntKind.u64.wrap (32 - (ji3))) then (some (Go.bits .or .u32 (ji5) (shr .u32 a0 (IntKind.u64.wrap (32 - (ji3)))))) else (none)) = some r := by first | (rw [hji5] at H; exact H) | (simp only [hji5] at H ⊢; exact H)
    have hji5_ : (IntKind.u32.wrap (a0 * 2 ^ min (ji3).toNat 32)) = ji5 := hji5
    have hji5z : (ji3) ≤ 32 → (IntKind.u32.wrap (a0 * 2 ^ (ji3).toNat)) = ji5 := shl_small hji5
    obtain ⟨ji6, hji6⟩ : ∃ j_ : Int, (IntKind.u64.wrap (32 - (ji3))) = j_ := ⟨_, rfl⟩
    replace H : (if 0 ≤ (ji6) then (some (Go.bits .or .u32 (ji5) (shr .u32 a0 (ji6)))) else (none)) = some r := by first | (rw [hji6] at H; exact H) | (simp only [hji6] at H ⊢; exact H)
    by_cases c7 : 0 ≤ (ji6)
    · rw [if_pos c7] at H
      have c7b0 := eq_true c7
      have c7b1 : decide (0 ≤ (ji6)) = true := decide_eq_true c7
      clear c7
      obtain ⟨ji8, hji8⟩ : ∃ j_ : Int, (shr .u32 a0 (ji6)) = j_ := ⟨_, rfl⟩
      replace H : (some (Go.bits .or .u32 (ji5) (ji8))) = some r := by first | (rw [hji8] at H; exact H) | (simp only [hji8] at H ⊢; exact H)
      have hji8_ : (a0 / 2 ^ min (ji6).toNat 32) = ji8 := hji8
      have hji8z : (ji6) ≤ 32 → (a0 / 2 ^ (ji6).toNat) = ji8 := shr_small hji8
      obtain rfl := Option.some.inj H
      go_enter Tryd.func125, Tryd.ntmps125
      go_wp2
      go_ret
      exact ⟨by first | rfl | (simp; done) | (simp only [← hji3, ← hji5, ← hji6, ← hji8] <;> (first | rfl | simp)) | (simp [*]; done), by repeat (first | exact Drawn0.refl _ | apply Drawn0.step)⟩
    · rw [if_neg c7] at H
      exact absurd H (by simp)
  · rw [if_neg c4] at H
    exact absurd H (by simp)
end Go.Proofs.YteamljekjncbfaaDoor.P
end
section
namespace Go.Proofs.YteamljekjncbfaaDoor.P
open Go.RowKit Go.Proofs.YteamljekjncbfaaDoorW.PrintWords Go.Proofs.YteamljekjncbfaaDoorW.PrintLast Go.Proofs.YteamljekjncbfaaDoorW.PrintMore
attribute [local go_sem] max2_int min2_int max_two min_two max_three min_three max_four min_four
set_option linter.unusedVariables false
set_option linter.unusedSimpArgs false
def sha_gamma.f (a0 : Int) (a1 : Int) (a2 : Int) (a3 : Int) : Option (Int) := (bits_RotateLeft32.f a0 (wrap64 (32 - a1))).bind fun t115 => ((bits_RotateLeft32.f a0 (wrap64 (32 - a2))).bind fun t116 => (if 0 ≤ a3 then (some (Go.bits .xor .u32 (Go.bits .xor .u32 t115 t116) (shr .u32 a0 a3))) else (none)))
set_option maxHeartbeats 8000000 in
set_option maxRecDepth 100000 in
theorem sha_gamma.calls (a0 : Int) (a1 : Int) (a2 : Int) (a3 : Int) (r : Int) (w : World) (h : sha_gamma.f a0 a1 a2 a3 = some r) :
    Calls Tryd.prog 124 #[.int .u32 a0, .int .i64 a1, .int .i64 a2, .int .i64 a3] w fun e w' => e = .returned (.int .u32 r) ∧ Drawn0 w w' := by
  have H : ((bits_RotateLeft32.f a0 (wrap64 (32 - a1))).bind fun t115 => ((bits_RotateLeft32.f a0 (wrap64 (32 - a2))).bind fun t116 => (if 0 ≤ a3 then (some (Go.bits .xor .u32 (Go.bits .xor .u32 t115 t116) (shr .u32 a0 a3))) else (none)))) = some r := h
  clear h
  replace H := Option.bind_eq_some_iff.mp H
  obtain ⟨t115, A50, H⟩ := H
  replace H : ((bits_RotateLeft32.f a0 (wrap64 (32 - a2))).bind fun t116 => (if 0 ≤ a3 then (some (Go.bits .xor .u32 (Go.bits .xor .u32 t115 t116) (shr .u32 a0 a3))) else (none))) = some r := H
  have A5 := Aside0.mk A50
  clear A50
  replace H := Option.bind_eq_some_iff.mp H
  obtain ⟨t116, A60, H⟩ := H
  replace H : (if 0 ≤ a3 then (some (Go.bits .xor .u32 (Go.bits .xor .u32 t115 t116) (shr .u32 a0 a3))) else (none)) = some r := H
  have A6 := Aside0.mk A60
  clear A60
  by_cases c7 : 0 ≤ a3
  · rw [if_pos c7] at H
    have c7b0 := eq_true c7
    have c7b1 : decide (0 ≤ a3) = true := decide_eq_true c7
    clear c7
    obtain ⟨ji8, hji8⟩ : ∃ j_ : Int, (shr .u32 a0 a3) = j_ := ⟨_, rfl⟩
    replace H : (some (Go.bits .xor .u32 (Go.bits .xor .u32 t115 t116) (ji8))) = some r := by first | (rw [hji8] at H; exact H) | (simp only [hji8] at H ⊢; exact H)
    (try rw [hji8] at A5)
    (try rw [hji8] at A6)
    have hji8_ : (a0 / 2 ^ min a3.toNat 32) = ji8 := hji8
    have hji8z : a3 ≤ 32 → (a0 / 2 ^ a3.toNat) = ji8 := shr_small hji8
    obtain rfl := Option.some.inj H
    go_enter Tryd.func124, Tryd.ntmps124
    go_wp2_with (first | (go_at_call 125; (with_reducible refine (bits_RotateLeft32.calls a0 (wrap64 (32 - a1)) t115 _ A5.out).mono ?_); rintro e w' ⟨rfl, ⟨nd, rfl⟩⟩; (try first | exact ⟨rfl, _, World.drewN_drewN _ _ _⟩ | exact ⟨rfl, _, Eq.trans (World.drewN_drewN _ _ _) (congrArg (World.drewN _) (Nat.add_assoc _ _ _))⟩)) | (go_at_call 125; (with_reducible refine (bits_RotateLeft32.calls a0 (wrap64 (32 - a2)) t116 _ A6.out).mono ?_); rintro e w' ⟨rfl, ⟨nd, rfl⟩⟩; (try first | exact ⟨rfl, _, World.drewN_drewN _ _ _⟩ | exact ⟨rfl, _, Eq.trans (World.drewN_drewN _ _ _) (congrArg (World.drewN _) (Nat.add_assoc _ _ _))⟩)))
    repeat (go_quiet (first | (go_at_call 125; (with_reducible refine (bits_RotateLeft32.calls a0 (wrap64 (32 - a1)) t115 _ A5.out).mono ?_); rintro e w' ⟨rfl, ⟨nd, rfl⟩⟩; (try first | exact ⟨rfl, _, World.drewN_drewN _ _ _⟩ | exact ⟨rfl, _, Eq.trans (World.drewN_drewN _ _ _) (congrArg (World.drewN _) (Nat.add_assoc _ _ _))⟩)) | (go_at_call 125; (with_reducible refine (bits_RotateLeft32.calls a0 (wrap64 (32 - a2)) t116 _ A6.out).mono ?_); rintro e w' ⟨rfl, ⟨nd, rfl⟩⟩; (try first | exact ⟨rfl, _, World.drewN_drewN _ _ _⟩ | exact ⟨rfl, _, Eq.trans (World.drewN_drewN _ _ _) (congrArg (World.drewN _) (Nat.add_assoc _ _ _))⟩))); try go_wp2_with (first | (go_at_call 125; (with_reducible refine (bits_RotateLeft32.calls a0 (wrap64 (32 - a1)) t115 _ A5.out).mono ?_); rintro e w' ⟨rfl, ⟨nd, rfl⟩⟩; (try first | exact ⟨rfl, _, World.drewN_drewN _ _ _⟩ | exact ⟨rfl, _, Eq.trans (World.drewN_drewN _ _ _) (congrArg (World.drewN _) (Nat.add_assoc _ _ _))⟩)) | (go_at_call 125; (with_reducible refine (bits_RotateLeft32.calls a0 (wrap64 (32 - a2)) t116 _ A6.out).mono ?_); rintro e w' ⟨rfl, ⟨nd, rfl⟩⟩; (try first | exact ⟨rfl, _, World.drewN_drewN _ _ _⟩ | exact ⟨rfl, _, Eq.trans (World.drewN_drewN _ _ _) (congrArg (World.drewN _) (Nat.add_assoc _ _ _))⟩))))
    go_ret
    exact ⟨by first | rfl | (simp; done) | (simp only [← hji8] <;> (first | rfl | simp)) | (simp [*]; done), by repeat (first | exact Drawn0.refl _ | apply Drawn0.step)⟩
  · rw [if_neg c7] at H
    exact absurd H (by simp)
end Go.Proofs.YteamljekjncbfaaDoor.P
end
section
namespace Go.Proofs.YteamljekjncbfaaDoor.P
open Go.RowKit Go.Proofs.YteamljekjncbfaaDoorW.PrintWords Go.Proofs.YteamljekjncbfaaDoorW.PrintLast Go.Proofs.YteamljekjncbfaaDoorW.PrintMore
attribute [local go_sem] max2_int min2_int max_two min_two max_three min_three max_four min_four
set_option linter.unusedVariables false
set_option linter.unusedSimpArgs false
def sha_sigma.f (a0 : Int) (a1 : Int) (a2 : Int) (a3 : Int) : Option (Int) := (bits_RotateLeft32.f a0 (wrap64 (32 - a1))).bind fun t117 => ((bits_RotateLeft32.f a0 (wrap64 (32 - a2))).bind fun t118 => ((bits_RotateLeft32.f a0 (wrap64 (32 - a3))).bind fun t119 => (some (Go.bits .xor .u32 (Go.bits .xor .u32 t117 t118) t119))))
set_option maxHeartbeats 8000000 in
set_option maxRecDepth 100000 in
theorem sha_sigma.calls (a0 : Int) (a1 : Int) (a2 : Int) (a3 : Int) (r : Int) (w : World) (h : sha_sigma.f a0 a1 a2 a3 = some r) :
    Calls Tryd.prog 123 #[.int .u32 a0, .int .i64 a1, .int .i64 a2, .int .i64 a3] w fun e w' => e = .returned (.int .u32 r) ∧ Drawn0 w w' := by
  have H : ((bits_RotateLeft32.f a0 (wrap64 (32 - a1))).bind fun t117 => ((bits_RotateLeft32.f a0 (wrap64 (32 - a2))).bind fun t118 => ((bits_RotateLeft32.f a0 (wrap64 (32 - a3))).bind fun t119 => (some (Go.bits .xor .u32 (Go.bits .xor .u32 t117 t118) t119))))) = some r := h
  clear h
  replace H := Option.bind_eq_some_iff.mp H
  obtain ⟨t117, A50, H⟩ := H
  replace H : ((bits_RotateLeft32.f a0 (wrap64 (32 - a2))).bind fun t118 => ((bits_RotateLeft32.f a0 (wrap64 (32 - a3))).bind fun t119 => (some (Go.bits .xor .u32 (Go.bits .xor .u32 t117 t118) t119)))) = some r := H
  have A5 := Aside0.mk A50
  clear A50
  replace H := Option.bind_eq_some_iff.mp H
  obtain ⟨t118, A60, H⟩ := H
  replace H : ((bits_RotateLeft32.f a0 (wrap64 (32 - a3))).bind fun t119 => (some (Go.bits .xor .u32 (Go.bits .xor .u32 t117 t118) t119))) = some r := H
  have A6 := Aside0.mk A60
  clear A60
  replace H := Option.bind_eq_some_iff.mp H
  obtain ⟨t119, A70, H⟩ := H
  replace H : (some (Go.bits .xor .u32 (Go.bits .xor .u32 t117 t118) t119)) = some r := H
  have A7 := Aside0.mk A70
  clear A70
  obtain rfl := Option.some.inj H
  go_enter Tryd.func123, Tryd.ntmps123
  go_wp2_with (first | ((with_reducible refine gate_callee (f := 125) rfl ?_); refine goesL_ (some 12) rfl rfl Tryd.func125 (by kernel_rfl) rfl #[.int .u32 a0, .int .i64 (wrap64 (32 - a1))] rfl (by (try simp only [List.map_toArray, List.map_cons, List.map_nil]); first | done | rfl | (simp only [List.length_drop, List.length_take]; rfl)) ?_; (with_reducible refine (bits_RotateLeft32.calls a0 (wrap64 (32 - a1)) t117 _ A5.out).mono ?_); rintro e w' ⟨rfl, ⟨nd, rfl⟩⟩; refine ⟨_, rfl, ?_⟩) | ((with_reducible refine gate_callee (f := 125) rfl ?_); refine goesL_ (some 16) rfl rfl Tryd.func125 (by kernel_rfl) rfl #[.int .u32 a0, .int .i64 (wrap64 (32 - a2))] rfl (by (try simp only [List.map_toArray, List.map_cons, List.map_nil]); first | done | rfl | (simp only [List.length_drop, List.length_take]; rfl)) ?_; (with_reducible refine (bits_RotateLeft32.calls a0 (wrap64 (32 - a2)) t118 _ A6.out).mono ?_); rintro e w' ⟨rfl, ⟨nd, rfl⟩⟩; refine ⟨_, rfl, ?_⟩) | ((with_reducible refine gate_callee (f := 125) rfl ?_); refine goesL_ (some 21) rfl rfl Tryd.func125 (by kernel_rfl) rfl #[.int .u32 a0, .int .i64 (wrap64 (32 - a3))] rfl (by (try simp only [List.map_toArray, List.map_cons, List.map_nil]); first | done | rfl | (simp only [List.length_drop, List.length_take]; rfl)) ?_; (with_reducible refine (bits_RotateLeft32.calls a0 (wrap64 (32 - a3)) t119 _ A7.out).mono ?_); rintro e w' ⟨rfl, ⟨nd, rfl⟩⟩; refine ⟨_, rfl, ?_⟩))
  go_ret
  exact ⟨by first | rfl | (simp; done) | (simp [*]; done), by repeat (first | exact Drawn0.refl _ | apply Drawn0.step)⟩
end Go.Proofs.YteamljekjncbfaaDoor.P
end
section
set_option linter.unusedVariables false
set_option linter.unusedSimpArgs false
namespace Go.Proofs.YteamljekjncbfaaDoor.P
open Go.RowKit Go.Proofs.YteamljekjncbfaaDoorW.PrintWords Go.Proofs.YteamljekjncbfaaDoorW.PrintLast Go.Proofs.YteamljekjncbfaaDoorW.PrintMore
def words (xs : List Int) : Array Value := (xs.map (Value.int .u32)).toArray
theorem words_get (xs : List Int) (i : Nat) (h : i < xs.length) : (words xs)[i]? = some (.int .u32 (xs.getD i 0)) := by
  unfold words
  rw [List.getElem?_toArray, List.getElem?_map, List.getElem?_eq_getElem h, List.getD_eq_getElem?_getD, List.getElem?_eq_getElem h]
  rfl
theorem words_set (xs : List Int) (i : Nat) (x : Int) : (words xs).setIfInBounds i (.int .u32 x) = words (xs.set i x) := by
  unfold words
  rw [List.map_set]
  simp
def IsWords (w : World) (g t : Nat) (xs : List Int) : Prop := w.heap[g]? = some (.cells (words xs) t (0, 0))
theorem IsWords.cell {w : World} {g t : Nat} {xs : List Int} (h : IsWords w g t xs) (i : Nat) (hi : i < xs.length) : w.cell? ⟨g, i, none⟩ = some (.int .u32 (xs.getD i 0)) :=
  (blk_cell h i).trans (words_get xs i hi)
theorem IsWords.frozen {w : World} {g t : Nat} {xs : List Int} (h : IsWords w g t xs) (i : Nat) : w.frozen? ⟨g, i, none⟩ = false := blk_frozen h i
theorem IsWords.set {w : World} {g t : Nat} {xs : List Int} (h : IsWords w g t xs) (i : Nat) (x : Int) : IsWords (w.setCell ⟨g, i, none⟩ (.int .u32 x)) g t (xs.set i x) := by
  unfold IsWords
  rw [← words_set]
  exact blk_set h i _
theorem IsWords.drewN {w : World} {g t : Nat} {xs : List Int} (h : IsWords w g t xs) (n : Nat) : IsWords (w.drewN n) g t xs := h
def zeros64 : List Int := List.replicate 64 0
def sched2At (xs : List Int) (i : Nat) : Int := ((((sha_gamma.f (xs.getD (i - 2) 0) 17 19 10).getD 0 + xs.getD (i - 7) 0) % 4294967296 + (sha_gamma.f (xs.getD (i - 15) 0) 7 18 3).getD 0) % 4294967296 + xs.getD (i - 16) 0) % 4294967296
def sched2 (xs : List Int) : Nat → List Int
  | 0 => xs
  | k + 1 => (sched2 xs k).set (k + 16) (sched2At (sched2 xs k) (k + 16))
def sched1 (bs : List Int) : Nat → List Int
  | 0 => zeros64
  | k + 1 => (sched1 bs k).set (k / 4) (Go.bits .or .u32 (((sched1 bs k).getD (k / 4) 0) * 256 % 4294967296) (rd bs (k : Int) % 4294967296))
def schedule (bs : List Int) : List Int := sched2 (sched1 bs 64) 48
theorem sched1_length (bs : List Int) (k : Nat) : (sched1 bs k).length = 64 := by
  induction k with
  | zero => simp [sched1, zeros64]
  | succ k ih => simp [sched1, ih]
theorem sched2_length (xs : List Int) (k : Nat) (h : xs.length = 64) : (sched2 xs k).length = 64 := by
  induction k with
  | zero => exact h
  | succ k ih => simp [sched2, ih]
theorem cell_set_ne {w : World} {g i j n : Nat} {u : Value} (h : i ≠ j) (v : Value) (hc : w.cell? ⟨g, i, none⟩ = some u) : ((w.drewN n).setCell ⟨g, j, none⟩ v).cell? ⟨g, i, none⟩ = some u := by
  refine (World.cell?_setCell_other _ _ _ _ (fun e => ?_)).trans ?_
  · simp only [Addr.mk.injEq] at e
    omega
  · exact hc
theorem bits_u64_nonneg (op : BinOp) (x y : Int) : 0 ≤ Go.bits op .u64 x y := by
  unfold Go.bits
  rw [IntKind.wrap_u64]
  omega
theorem rot_some (x n : Int) : ∃ r, bits_RotateLeft32.f x n = some r := by
  unfold bits_RotateLeft32.f
  rw [if_pos (bits_u64_nonneg _ _ _), if_pos (by rw [IntKind.wrap_u64]; omega)]
  exact ⟨_, rfl⟩
theorem gamma_some (x a b c : Int) (hc : 0 ≤ c) : sha_gamma.f x a b c = some ((sha_gamma.f x a b c).getD 0) := by
  unfold sha_gamma.f
  obtain ⟨r1, h1⟩ := rot_some x (wrap64 (32 - a))
  obtain ⟨r2, h2⟩ := rot_some x (wrap64 (32 - b))
  rw [h1, h2]
  simp only [Option.bind_some]
  rw [if_pos hc]
  rfl
theorem sigma_some (x a b c : Int) : sha_sigma.f x a b c = some ((sha_sigma.f x a b c).getD 0) := by
  unfold sha_sigma.f
  obtain ⟨r1, h1⟩ := rot_some x (wrap64 (32 - a))
  obtain ⟨r2, h2⟩ := rot_some x (wrap64 (32 - b))
  obtain ⟨r3, h3⟩ := rot_some x (wrap64 (32 - c))
  rw [h1, h2, h3]
  rfl
set_option maxHeartbeats 1000000 in
set_option maxRecDepth 100000 in
theorem scheduleOf_calls (A0 : Option Addr) (c0 : Nat) (bs : List Int) (w : World) (hr : Kd.C (Kd.int .u8) w A0 bs.length bs) (hc : bs.length ≤ c0) (hl : 64 ≤ bs.length) (hb : bs.length < 9223372036854775807) :
    Calls Tryd.prog 122 #[.slice A0 bs.length c0] w fun e w' => e = .returned (.pointer (some ⟨w.heap.size, 0, none⟩)) ∧ IsWords w' w.heap.size 152 (schedule bs) ∧ Below w.heap.size w w' := by
  have HR := Aside0.mk hr
  have hc64 : 64 ≤ c0 := by omega
  clear hr hc
  go_enter Tryd.func122, Tryd.ntmps122
  go_wp2_with fail
  obtain ⟨g, hg⟩ : ∃ g, g = w.heap.size := ⟨_, rfl⟩
  rw [← hg]
  have HG := Aside0.mk hg
  clear hg
  go_loopw [10] (fun v10 wr => ∃ k : Nat, k ≤ 64 ∧ v10 = .int .i64 k ∧ Aside0 (IsWords wr g 152 (sched1 bs k)) ∧ Aside0 (Below w.heap.size w wr)) (fun v10 _ => 64 - (intOf v10).toNat)
  case atStart => exact ⟨0, by omega, rfl, ⟨by rw [HG.out]; exact heap_alloc_new w _⟩, ⟨below_alloc (Below.refl _ _) _⟩⟩
  case round =>
    obtain ⟨k, hk, rfl, HI, HB⟩ := hrel
    by_cases hlt : k < 64
    · have hd : decide ((k : Int) < 64) = true := by simp; omega
      obtain ⟨ad, rfl, hx0⟩ := Kd.at_int HR.out (k : Int) (by omega) (by omega)
      have hx := (HB.out.cell (World.block_lt_of_cell? w _ hx0)).trans hx0
      clear hx0
      rw [Int.toNat_natCast] at hx
      have hk4 : k / 4 < 64 := by omega
      have hc := HI.out.cell (k / 4) (by rw [sched1_length]; omega)
      have hf := HI.out.frozen (k / 4)
      go_wp2_with fail
      go_roundw
      case rel =>
        refine ⟨k + 1, by omega, by go_num, ⟨?_⟩, ⟨HB.out.setCell (by show w.heap.size ≤ g; rw [HG.out]; omega) _⟩⟩
        have := HI.out.set (k / 4) (Go.bits .or .u32 (((sched1 bs k).getD (k / 4) 0) * 256 % 4294967296) (rd bs (k : Int) % 4294967296))
        rw [List.getD_eq_getElem?_getD] at this
        simpa only [sched1, List.getD_eq_getElem?_getD] using this
      case measure => simp [intOf]; omega
    · have hd : decide ((k : Int) < 64) = false := by simp; omega
      have hk64 : k = 64 := by omega
      rw [hk64] at HI
      clear hk64 hk hlt
      go_wp2_with fail
      obtain ⟨xs0, hxs0⟩ : ∃ xs, xs = sched1 bs 64 := ⟨_, rfl⟩
      have hl0 : xs0.length = 64 := by rw [hxs0]; exact sched1_length _ _
      rw [← hxs0] at HI
      have HL0 := Aside0.mk hl0
      have HX0 := Aside0.mk hxs0
      clear hl0 hxs0 hd
      go_loopw [6] (fun v6 wr => ∃ k : Nat, k ≤ 48 ∧ v6 = .int .i64 (16 + k : Nat) ∧ Aside0 (IsWords wr g 152 (sched2 xs0 k)) ∧ Aside0 (Below w.heap.size w wr)) (fun v6 _ => 64 - (intOf v6).toNat)
      case atStart => exact ⟨0, by omega, rfl, HI, HB⟩
      case round =>
        obtain ⟨k, hk, rfl, HI, HB⟩ := hrel
        by_cases hlt : k < 48
        · obtain ⟨j, hj⟩ : ∃ j, j = 16 + k := ⟨_, rfl⟩
          rw [← hj]
          obtain ⟨xs, hxs⟩ : ∃ xs, xs = sched2 xs0 k := ⟨_, rfl⟩
          rw [← hxs] at HI
          have hxl : xs.length = 64 := by rw [hxs]; exact sched2_length xs0 k HL0.out
          have HXS := Aside0.mk hxs
          have HJ := Aside0.mk hj
          have j0 : 16 ≤ j := by omega
          have j1 : j < 64 := by omega
          obtain ⟨x2, hx2⟩ : ∃ x, x = xs.getD (j - 2) 0 := ⟨_, rfl⟩
          obtain ⟨x7, hx7⟩ : ∃ x, x = xs.getD (j - 7) 0 := ⟨_, rfl⟩
          obtain ⟨x15, hx15⟩ : ∃ x, x = xs.getD (j - 15) 0 := ⟨_, rfl⟩
          obtain ⟨x16, hx16⟩ : ∃ x, x = xs.getD (j - 16) 0 := ⟨_, rfl⟩
          obtain ⟨j2, hj2⟩ : ∃ x, x = j - 2 := ⟨_, rfl⟩
          have c2 := HI.out.cell (j - 2) (by omega)
          rw [← hj2] at c2 hx2
          have HJ2 := Aside0.mk hj2
          clear hj2
          obtain ⟨j7, hj7⟩ : ∃ x, x = j - 7 := ⟨_, rfl⟩
          have c7 := HI.out.cell (j - 7) (by omega)
          rw [← hj7] at c7 hx7
          have HJ7 := Aside0.mk hj7
          clear hj7
          obtain ⟨j15, hj15⟩ : ∃ x, x = j - 15 := ⟨_, rfl⟩
          have c15 := HI.out.cell (j - 15) (by omega)
          rw [← hj15] at c15 hx15
          have HJ15 := Aside0.mk hj15
          clear hj15
          obtain ⟨j16, hj16⟩ : ∃ x, x = j - 16 := ⟨_, rfl⟩
          have c16 := HI.out.cell (j - 16) (by omega)
          rw [← hj16] at c16 hx16
          have HJ16 := Aside0.mk hj16
          clear hj16
          rw [← hx2] at c2
          rw [← hx7] at c7
          rw [← hx15] at c15
          rw [← hx16] at c16
          have hf := HI.out.frozen j
          have hcj := HI.out.cell j (by omega)
          have HX := Aside0.mk (And.intro hx2 (And.intro hx7 (And.intro hx15 hx16)))
          have G1 := Aside0.mk (gamma_some x2 17 19 10 (by omega))
          have G2 := Aside0.mk (gamma_some x15 7 18 3 (by omega))
          obtain ⟨y1, hy1⟩ : ∃ y, y = (sha_gamma.f x2 17 19 10).getD 0 := ⟨_, rfl⟩
          obtain ⟨y2, hy2⟩ : ∃ y, y = (sha_gamma.f x15 7 18 3).getD 0 := ⟨_, rfl⟩
          rw [← hy1] at G1
          rw [← hy2] at G2
          have HY := Aside0.mk (And.intro hy1 hy2)
          have HXL := Aside0.mk hxl
          have HK := Aside0.mk hlt
          clear hj hxs hx2 hx7 hx15 hx16 hy1 hy2 hxl hlt
          have hd : decide ((j : Int) < 64) = true := by simp; omega
          have pj : 0 ≤ (j : Int) := by omega
          have qj : (j : Int) < 64 := by omega
          go_wp2_with fail
          have w2 : IntKind.i64.wrap (j2 : Int) = (j2 : Int) := by have := HJ2.out; exact IntWalk.i64_in _ ⟨by omega, by omega⟩
          have q2 : (j2 : Int) < 64 := by have := HJ2.out; omega
          have p2 : 0 ≤ (j2 : Int) := by omega
          have e2 : (j : Int) - 2 = (j2 : Int) := by have := HJ2.out; omega
          have w7 : IntKind.i64.wrap (j7 : Int) = (j7 : Int) := by have := HJ7.out; exact IntWalk.i64_in _ ⟨by omega, by omega⟩
          have q7 : (j7 : Int) < 64 := by have := HJ7.out; omega
          have p7 : 0 ≤ (j7 : Int) := by omega
          have e7 : (j : Int) - 7 = (j7 : Int) := by have := HJ7.out; omega
          have w15 : IntKind.i64.wrap (j15 : Int) = (j15 : Int) := by have := HJ15.out; exact IntWalk.i64_in _ ⟨by omega, by omega⟩
          have q15 : (j15 : Int) < 64 := by have := HJ15.out; omega
          have p15 : 0 ≤ (j15 : Int) := by omega
          have e15 : (j : Int) - 15 = (j15 : Int) := by have := HJ15.out; omega
          have w16 : IntKind.i64.wrap (j16 : Int) = (j16 : Int) := by have := HJ16.out; exact IntWalk.i64_in _ ⟨by omega, by omega⟩
          have q16 : (j16 : Int) < 64 := by have := HJ16.out; omega
          have p16 : 0 ≤ (j16 : Int) := by omega
          have e16 : (j : Int) - 16 = (j16 : Int) := by have := HJ16.out; omega
          go_region_held3 (fun w' => w'.cell? ⟨g, j2, none⟩ = some (.int .u32 x2) ∧ w'.cell? ⟨g, j7, none⟩ = some (.int .u32 x7) ∧ w'.cell? ⟨g, j15, none⟩ = some (.int .u32 x15) ∧ w'.cell? ⟨g, j16, none⟩ = some (.int .u32 x16)) (first | go_keep | exact ⟨cell_set_ne (by have := HJ2.out; omega) _ c2, cell_set_ne (by have := HJ7.out; omega) _ c7, cell_set_ne (by have := HJ15.out; omega) _ c15, cell_set_ne (by have := HJ16.out; omega) _ c16⟩) (first | (go_at_call 124; ((with_reducible refine (sha_gamma.calls x2 17 19 10 y1 _ G1.out).mono ?_); rintro e w' ⟨rfl, ⟨m1, rfl⟩⟩)) | (go_at_call 124; ((with_reducible refine (sha_gamma.calls x15 7 18 3 y2 _ G2.out).mono ?_); rintro e w' ⟨rfl, ⟨m2, rfl⟩⟩)))
          go_wp2_with fail
          go_roundw
          case rel =>
            have hX := HX.out
            have hY := HY.out
            have hv : (((y1 + x7) % 4294967296 + y2) % 4294967296 + x16) % 4294967296 = sched2At (sched2 xs0 k) (k + 16) := by
              unfold sched2At
              rw [← HXS.out, show k + 16 = j from by rw [HJ.out]; omega, ← HJ2.out, ← HJ7.out, ← HJ15.out, ← HJ16.out, ← hX.1, ← hX.2.1, ← hX.2.2.1, ← hX.2.2.2, ← hY.1, ← hY.2]
            refine ⟨k + 1, by have := HK.out; omega, by rw [HJ.out]; go_num, ⟨?_⟩, ⟨(pw_below_drewN HB.out _).setCell (by show w.heap.size ≤ g; rw [HG.out]; omega) _⟩⟩
            rw [hv]
            have h1 := (HI.out.drewN (1 + m1 + m2)).set j (sched2At (sched2 xs0 k) (k + 16))
            have h2 : sched2 xs0 (k + 1) = xs.set j (sched2At (sched2 xs0 k) (k + 16)) := by
              simp only [sched2]
              rw [← HXS.out, show k + 16 = j from by rw [HJ.out]; omega]
            rw [h2]
            exact h1
          case measure => simp [intOf]; have := HJ.out; omega
        · have hd : decide (((16 + k : Nat) : Int) < 64) = false := by simp; omega
          obtain rfl : k = 48 := by omega
          go_wp2_with fail
          go_ret
          rw [← HG.out]
          refine ⟨rfl, ?_, by rw [HG.out]; exact HB.out⟩
          unfold schedule
          rw [← HX0.out]
          exact HI.out
end Go.Proofs.YteamljekjncbfaaDoor.P
end
section
set_option linter.unusedVariables false
set_option linter.unusedSimpArgs false
namespace Go.Proofs.YteamljekjncbfaaDoor.P
open Go.RowKit Go.Proofs.YteamljekjncbfaaDoorW.PrintWords Go.Proofs.YteamljekjncbfaaDoorW.PrintLast Go.Proofs.YteamljekjncbfaaDoorW.PrintMore
structure Sums where
  a : Int
  b : Int
  c : Int
  d : Int
  e : Int
  f : Int
  g : Int
  h : Int
def Sums.list (s : Sums) : List Int := [s.a, s.b, s.c, s.d, s.e, s.f, s.g, s.h]
def Sums.round (s : Sums) (add wi : Int) : Sums :=
  let t := (s.h + (sha_sigma.f s.e 6 11 25).getD 0 + Go.bits .xor .u32 (Go.bits .and .u32 s.e (Go.bits .xor .u32 s.f s.g)) s.g + add + wi) % 4294967296
  let u := ((sha_sigma.f s.a 2 13 22).getD 0 + Go.bits .or .u32 (Go.bits .and .u32 s.a (Go.bits .or .u32 s.b s.c)) (Go.bits .and .u32 s.b s.c)) % 4294967296
  ⟨(t + u) % 4294967296, s.a, s.b, s.c, (s.d + t) % 4294967296, s.e, s.f, s.g⟩
def Sums.rounds (ws : List Int) (s : Sums) : Nat → Sums
  | 0 => s
  | k + 1 => (Sums.rounds ws s k).round (shaAdded.getD k 0) (ws.getD k 0)
def addW (xs ys : List Int) : Nat → List Int
  | 0 => xs
  | k + 1 => (addW xs ys k).set k (((addW xs ys k).getD k 0 + ys.getD k 0) % 4294967296)
theorem addW_length (xs ys : List Int) (k : Nat) : (addW xs ys k).length = xs.length := by
  induction k with
  | zero => rfl
  | succ k ih => simp [addW, ih]
def Sums.take (s : Sums) (bs : List Int) : List Int := addW (Sums.rounds (schedule bs) s 64).list s.list 8
set_option maxRecDepth 100000 in
theorem sums_index (s : Sums) (k : Nat) (hk : k < 8) (w : World) : (Instr.index 141 (.agg #[.int .u32 s.a, .int .u32 s.b, .int .u32 s.c, .int .u32 s.d, .int .u32 s.e, .int .u32 s.f, .int .u32 s.g, .int .u32 s.h]) (.int .i64 (k : Int))).run Tryd.prog w = .ok (.int .u32 (s.list.getD k 0)) w := by
  rcases (show k = 0 ∨ k = 1 ∨ k = 2 ∨ k = 3 ∨ k = 4 ∨ k = 5 ∨ k = 6 ∨ k = 7 by omega) with rfl | rfl | rfl | rfl | rfl | rfl | rfl | rfl
  all_goals kernel_rfl
theorem IsSums.cells {w : World} {g t : Nat} {s : Sums} (h : IsWords w g t s.list) :
    w.cell? ⟨g, 0, none⟩ = some (.int .u32 s.a) ∧ w.cell? ⟨g, 1, none⟩ = some (.int .u32 s.b) ∧ w.cell? ⟨g, 2, none⟩ = some (.int .u32 s.c) ∧ w.cell? ⟨g, 3, none⟩ = some (.int .u32 s.d) ∧
    w.cell? ⟨g, 4, none⟩ = some (.int .u32 s.e) ∧ w.cell? ⟨g, 5, none⟩ = some (.int .u32 s.f) ∧ w.cell? ⟨g, 6, none⟩ = some (.int .u32 s.g) ∧ w.cell? ⟨g, 7, none⟩ = some (.int .u32 s.h) :=
  ⟨blk_cell h 0, blk_cell h 1, blk_cell h 2, blk_cell h 3, blk_cell h 4, blk_cell h 5, blk_cell h 6, blk_cell h 7⟩
def put8 (w : World) (g : Nat) (v0 v1 v2 v3 v4 v5 v6 v7 : Int) : World :=
  ((((((((w.setCell ⟨g, 0, none⟩ (.int .u32 v0)).setCell ⟨g, 1, none⟩ (.int .u32 v1)).setCell ⟨g, 2, none⟩ (.int .u32 v2)).setCell ⟨g, 3, none⟩ (.int .u32 v3)).setCell ⟨g, 4, none⟩ (.int .u32 v4)).setCell ⟨g, 5, none⟩ (.int .u32 v5)).setCell ⟨g, 6, none⟩ (.int .u32 v6)).setCell ⟨g, 7, none⟩ (.int .u32 v7))
theorem put8_words {w : World} {g t : Nat} {s : Sums} (h : IsWords w g t s.list) (v0 v1 v2 v3 v4 v5 v6 v7 : Int) : IsWords (put8 w g v0 v1 v2 v3 v4 v5 v6 v7) g t [v0, v1, v2, v3, v4, v5, v6, v7] :=
  (((((((h.set 0 v0).set 1 v1).set 2 v2).set 3 v3).set 4 v4).set 5 v5).set 6 v6).set 7 v7
theorem put8_far {w : World} {g g2 t : Nat} {xs : List Int} (h : IsWords w g2 t xs) (hne : g2 ≠ g) (v0 v1 v2 v3 v4 v5 v6 v7 : Int) : IsWords (put8 w g v0 v1 v2 v3 v4 v5 v6 v7) g2 t xs := by
  exact blk_far (blk_far (blk_far (blk_far (blk_far (blk_far (blk_far (blk_far (h) hne _) hne _) hne _) hne _) hne _) hne _) hne _) hne _
theorem put8_below {w0 w : World} {g : Nat} (h : Below w0.heap.size w0 w) (hg : w0.heap.size ≤ g) (v0 v1 v2 v3 v4 v5 v6 v7 : Int) : Below w0.heap.size w0 (put8 w g v0 v1 v2 v3 v4 v5 v6 v7) := by
  exact Below.setCell (Below.setCell (Below.setCell (Below.setCell (Below.setCell (Below.setCell (Below.setCell (Below.setCell (h) hg _) hg _) hg _) hg _) hg _) hg _) hg _) hg _
theorem put8_keep {w0 w : World} {g : Nat} (h : KeepBut w0 w g none) (v0 v1 v2 v3 v4 v5 v6 v7 : Int) : KeepBut w0 (put8 w g v0 v1 v2 v3 v4 v5 v6 v7) g none := by
  exact KeepBut.set_ (KeepBut.set_ (KeepBut.set_ (KeepBut.set_ (KeepBut.set_ (KeepBut.set_ (KeepBut.set_ (KeepBut.set_ (h) _ _) _ _) _ _) _ _) _ _) _ _) _ _) _ _
theorem quiet_drawn {P : Program} {f : FuncId} {args : Array Value} {w : World} {n : Nat} {v : Value}
    (h : Calls P f args (w.drewN n) fun e w' => e = .returned v ∧ Drawn0 (w.drewN n) w') : Calls P f args (w.drewN n) fun e w'' => e = .returned v ∧ ∃ m, w'' = w.drewN m :=
  Calls.quiet_of (h.mono fun _ _ ⟨he, hd⟩ => ⟨he, hd.out⟩)
theorem quiet_drawn2 {P : Program} {f : FuncId} {args : Array Value} {w : World} {q n : Nat} {v : Value}
    (h : Calls P f args (w.drewN (q + n)) fun e w' => e = .returned v ∧ Drawn0 (w.drewN (q + n)) w') : Calls P f args (w.drewN (q + n)) fun e w'' => e = .returned v ∧ ∃ m, w'' = w.drewN (q + m) :=
  h.mono fun _ _ ⟨he, hd⟩ => by
    obtain ⟨m, hm⟩ := hd.out
    exact ⟨he, n + m, by rw [hm, World.drewN_drewN, Nat.add_assoc]⟩
theorem still_tail_at {P : Program} {id : Nat} {Q : Exit → Act → World → Prop} {a : Act} {w : World} {l : List Oper} (n : Nat) (hm : P.follows .mixedOrders = true) (hB : Region.lexTailB .any l.toArray n = true)
    (h : ∀ W : World, W = w.drew → wpStill P l.toArray W (fun a' => wpList P l.toArray Q (l.drop n) a' W) (l.take n) a) : (Code.region id l.toArray true).wp P Q a w :=
  wp_region_still_tail n hm hB (h _ rfl)
set_option maxHeartbeats 4000000 in
set_option maxRecDepth 100000 in
theorem take_calls (g : Nat) (s : Sums) (A0 : Option Addr) (cap : Nat) (bs : List Int) (w0 w : World) (hI : IsWords w g 141 s.list) (hge : w0.heap.size ≤ g) (hr : Kd.C (Kd.int .u8) w A0 bs.length bs) (hc : bs.length ≤ cap) (hl : 64 ≤ bs.length) (hb : bs.length < 9223372036854775807)
    (hB : Below w0.heap.size w0 w) (hGS : GlobS w0) :
    Calls Tryd.prog 115 #[.pointer (some ⟨g, 0, none⟩), .slice A0 bs.length cap] w fun e w' => e = .returned (.tuple #[]) ∧ IsWords w' g 141 (s.take bs) ∧ Below w0.heap.size w0 w' ∧ KeepBut w w' g none := by
  have HLT := Aside0.mk (blk_lt hI)
  have HR := Aside0.mk hr
  have HI := Aside0.mk hI
  have HB := Aside0.mk hB
  have HGS := Aside0.mk hGS
  clear hr hI hB hGS
  go_enter Tryd.func115, Tryd.ntmps115
  go_wp2_with fail
  refine (scheduleOf_calls A0 cap bs w HR.out hc hl hb).mono ?_
  rintro e1 w1 ⟨rfl, hW1, hB1⟩
  have hI1 : IsWords w1 g 141 s.list := blk_below HI.out hB1
  obtain ⟨c0, c1, c2, c3, c4, c5, c6, c7⟩ := IsSums.cells hI1
  have HI1 := Aside0.mk hI1
  have HB1 := Aside0.mk hB1
  have HW1 := Aside0.mk hW1
  clear hW1 hI1 hB1
  go_wp2_with fail
  obtain ⟨gw, hgw⟩ : ∃ x, x = w.heap.size := ⟨_, rfl⟩
  obtain ⟨gs, hgs⟩ : ∃ x, x = w1.heap.size := ⟨_, rfl⟩
  rw [← hgw, ← hgs]
  have HGW := Aside0.mk hgw
  have HGSz := Aside0.mk hgs
  obtain ⟨ws, hws⟩ : ∃ x, x = schedule bs := ⟨_, rfl⟩
  have HWS := Aside0.mk hws
  clear hgw hgs hws c0 c1 c2 c3 c4 c5 c6 c7
  go_loopw [18] (fun v18 wr => ∃ k : Nat, k ≤ 64 ∧ v18 = .int .i64 k ∧ Aside0 (IsWords wr g 141 (Sums.rounds ws s k).list) ∧ Aside0 (IsWords wr gw 152 ws) ∧ Aside0 (IsWords wr gs 141 s.list) ∧ Aside0 (Below w0.heap.size w0 wr) ∧ Aside0 (KeepBut w wr g none)) (fun v18 _ => 64 - (intOf v18).toNat)
  case atStart =>
    refine ⟨0, by omega, rfl, ⟨blk_alloc HI1.out _⟩, ⟨?_⟩, ⟨?_⟩, ⟨below_alloc (below_then HB.out HB.out.size HB1.out) _⟩, ⟨?_⟩⟩
    · rw [HWS.out, HGW.out]
      exact blk_alloc HW1.out _
    · rw [HGSz.out]
      exact heap_alloc_new w1 _
    · exact ⟨by have := HB1.out.size; simp; omega, fun i hi _ _ => (Below.heap_alloc _ _ _ (by have := HB1.out.size; omega)).trans (HB1.out.block i hi)⟩
  case round =>
    obtain ⟨k, hk, rfl, HI, HW, HS, HB, HK⟩ := hrel
    by_cases hlt : k < 64
    · have hd : decide ((k : Int) < 64) = true := by simp; omega
      obtain ⟨S, hS⟩ : ∃ x, x = Sums.rounds ws s k := ⟨_, rfl⟩
      rw [← hS] at HI
      obtain ⟨c0, c1, c2, c3, c4, c5, c6, c7⟩ := IsSums.cells HI.out
      have f0 := HI.out.frozen 0
      have hws64 : ws.length = 64 := by rw [HWS.out]; exact sched2_length _ _ (sched1_length _ _)
      have cw := HW.out.cell k (by omega)
      have ca := (GlobS.of HGS.out HB.out).2 k hlt
      obtain ⟨wi, hwi⟩ : ∃ x, x = ws.getD k 0 := ⟨_, rfl⟩
      obtain ⟨ai, hai⟩ : ∃ x, x = shaAdded.getD k 0 := ⟨_, rfl⟩
      rw [← hwi] at cw
      rw [← hai] at ca
      have pk : 0 ≤ (k : Int) := by omega
      have qk : (k : Int) < 64 := by omega
      have G1 := Aside0.mk (sigma_some S.e 6 11 25)
      have G2 := Aside0.mk (sigma_some S.a 2 13 22)
      obtain ⟨y1, hy1⟩ : ∃ y, y = (sha_sigma.f S.e 6 11 25).getD 0 := ⟨_, rfl⟩
      obtain ⟨y2, hy2⟩ : ∃ y, y = (sha_sigma.f S.a 2 13 22).getD 0 := ⟨_, rfl⟩
      rw [← hy1] at G1
      rw [← hy2] at G2
      have HX := Aside0.mk (And.intro hS (And.intro hwi (And.intro hai (And.intro hy1 (And.intro hy2 hlt)))))
      clear hS hwi hai hy1 hy2 hws64 hlt
      go_wp2_with fail
      go_quiet (fail)
      go_wp2_with fail
      go_quiet ((go_at_call 123; (first | exact quiet_drawn2 (sha_sigma.calls S.e 6 11 25 y1 _ G1.out) | exact quiet_drawn (sha_sigma.calls S.e 6 11 25 y1 _ G1.out))))
      go_wp2_with fail
      go_quiet ((go_at_call 123; (first | exact quiet_drawn2 (sha_sigma.calls S.a 2 13 22 y2 _ G2.out) | exact quiet_drawn (sha_sigma.calls S.a 2 13 22 y2 _ G2.out))))
      go_wp2_with fail
      refine still_tail_at 30 (by kernel_rfl) (by kernel_rfl) (fun W hW => ?_)
      have HIW : IsWords W g 141 S.list := by rw [hW]; exact HI.out
      have HWW : Aside0 (IsWords W gw 152 ws) := ⟨by rw [hW]; exact HW.out⟩
      have HSW : Aside0 (IsWords W gs 141 s.list) := ⟨by rw [hW]; exact HS.out⟩
      have HBW : Aside0 (Below w0.heap.size w0 W) := ⟨by rw [hW]; exact below_drew1 (pw_below_drewN (pw_below_drewN (pw_below_drewN HB.out _) _) _)⟩
      have HKW : Aside0 (KeepBut w W g none) := ⟨by rw [hW]; exact HK.out⟩
      obtain ⟨c0, c1, c2, c3, c4, c5, c6, c7⟩ := IsSums.cells HIW
      have f0 := HIW.frozen 0
      have f1 := HIW.frozen 1
      have f2 := HIW.frozen 2
      have f3 := HIW.frozen 3
      have f4 := HIW.frozen 4
      have f5 := HIW.frozen 5
      have f6 := HIW.frozen 6
      have f7 := HIW.frozen 7
      have HIw := Aside0.mk HIW
      clear HIW hW HI HW HS HB HK cw ca
      simp only [List.take_succ_cons, List.take_zero, List.drop_succ_cons, List.drop_zero]
      repeat still_step
      refine wpStill_nil ?_
      go_wp2_with fail
      go_roundw
      case measure => simp [intOf]; have := HX.out.2.2.2.2.2; omega
      case rel =>
        refine ⟨k + 1, by have := HX.out.2.2.2.2.2; omega, by go_num, ⟨?_⟩, ⟨?_⟩, ⟨?_⟩, ⟨?_⟩, ⟨?_⟩⟩
        · have hX := HX.out
          have hp := put8_words HIw.out ((S.h + y1 + Go.bits .xor .u32 (Go.bits .and .u32 S.e (Go.bits .xor .u32 S.f S.g)) S.g + ai + wi + (y2 + Go.bits .or .u32 (Go.bits .and .u32 S.a (Go.bits .or .u32 S.b S.c)) (Go.bits .and .u32 S.b S.c))) % 4294967296) S.a S.b S.c ((S.d + (S.h + y1 + Go.bits .xor .u32 (Go.bits .and .u32 S.e (Go.bits .xor .u32 S.f S.g)) S.g + ai + wi)) % 4294967296) S.e S.f S.g
          have hq : (Sums.rounds ws s (k + 1)).list = [(S.h + y1 + Go.bits .xor .u32 (Go.bits .and .u32 S.e (Go.bits .xor .u32 S.f S.g)) S.g + ai + wi + (y2 + Go.bits .or .u32 (Go.bits .and .u32 S.a (Go.bits .or .u32 S.b S.c)) (Go.bits .and .u32 S.b S.c))) % 4294967296, S.a, S.b, S.c, (S.d + (S.h + y1 + Go.bits .xor .u32 (Go.bits .and .u32 S.e (Go.bits .xor .u32 S.f S.g)) S.g + ai + wi)) % 4294967296, S.e, S.f, S.g] := by
            simp only [Sums.rounds]
            rw [← hX.1, ← hX.2.1, ← hX.2.2.1]
            simp only [Sums.round, Sums.list]
            rw [← hX.2.2.2.1, ← hX.2.2.2.2.1]
            generalize Go.bits .xor .u32 (Go.bits .and .u32 S.e (Go.bits .xor .u32 S.f S.g)) S.g = X
            generalize Go.bits .or .u32 (Go.bits .and .u32 S.a (Go.bits .or .u32 S.b S.c)) (Go.bits .and .u32 S.b S.c) = Y
            have q1 : ((S.h + y1 + X + ai + wi) % 4294967296 + (y2 + Y) % 4294967296) % 4294967296 = (S.h + y1 + X + ai + wi + (y2 + Y)) % 4294967296 := by omega
            have q2 : (S.d + (S.h + y1 + X + ai + wi) % 4294967296) % 4294967296 = (S.d + (S.h + y1 + X + ai + wi)) % 4294967296 := by omega
            rw [q1, q2]
          rw [hq]
          exact hp
        · exact put8_far HWW.out (by rw [HGW.out]; have := HLT.out; omega) _ _ _ _ _ _ _ _
        · exact put8_far HSW.out (by rw [HGSz.out]; have := HLT.out; have := HB1.out.size; omega) _ _ _ _ _ _ _ _
        · exact put8_below HBW.out hge _ _ _ _ _ _ _ _
        · exact put8_keep HKW.out _ _ _ _ _ _ _ _
    · have hd : decide ((k : Int) < 64) = false := by simp; omega
      have hk64 : k = 64 := by omega
      rw [hk64] at HI
      obtain ⟨S, hS⟩ : ∃ x, x = Sums.rounds ws s 64 := ⟨_, rfl⟩
      rw [← hS] at HI
      obtain ⟨c0, c1, c2, c3, c4, c5, c6, c7⟩ := IsSums.cells HS.out
      have HX := Aside0.mk hS
      clear hS hk64 hk hlt HW
      go_wp2_with fail
      clear c0 c1 c2 c3 c4 c5 c6 c7 hd HS
      go_loopw [119] (fun v119 wr => ∃ k : Nat, k ≤ 8 ∧ v119 = .int .i64 k ∧ Aside0 (IsWords wr g 141 (addW S.list s.list k)) ∧ Aside0 (Below w0.heap.size w0 wr) ∧ Aside0 (KeepBut w wr g none)) (fun v119 _ => 8 - (intOf v119).toNat)
      case atStart => exact ⟨0, by omega, rfl, HI, HB, HK⟩
      case round =>
        clear HI HB HK
        obtain ⟨k, hk, rfl, HI, HB, HK⟩ := hrel
        by_cases hlt : k < 8
        · have hd : decide ((k : Int) < 8) = true := by simp; omega
          have hix := sums_index s k hlt
          have pk : 0 ≤ (k : Int) := by omega
          have qk : (k : Int) < 8 := by omega
          obtain ⟨y, hy⟩ : ∃ y, y = s.list.getD k 0 := ⟨_, rfl⟩
          obtain ⟨x, hx⟩ : ∃ x, x = (addW S.list s.list k).getD k 0 := ⟨_, rfl⟩
          have hc := HI.out.cell k (by rw [addW_length]; exact hlt)
          have hf := HI.out.frozen k
          rw [← hx] at hc
          rw [← hy] at hix
          have HXY := Aside0.mk (And.intro hx (And.intro hy hlt))
          clear hx hy hlt
          go_wp2_with fail
          refine still_tail_at 9 (by kernel_rfl) (by kernel_rfl) (fun W hW => ?_)
          have hcW : W.cell? ⟨g, k, none⟩ = some (.int .u32 x) := by rw [hW]; exact hc
          have hfW : W.frozen? ⟨g, k, none⟩ = false := by rw [hW]; exact hf
          have HIW : Aside0 (IsWords W g 141 (addW S.list s.list k)) := ⟨by rw [hW]; exact HI.out⟩
          have HBW : Aside0 (Below w0.heap.size w0 W) := ⟨by rw [hW]; exact below_drew1 HB.out⟩
          have HKW : Aside0 (KeepBut w W g none) := ⟨by rw [hW]; exact HK.out⟩
          clear hW HI HB HK hc hf
          simp only [List.take_succ_cons, List.take_zero, List.drop_succ_cons, List.drop_zero]
          repeat still_step
          refine wpStill_nil ?_
          go_wp2_with fail
          go_roundw
          case measure => simp [intOf]; have := HXY.out.2.2; omega
          case rel =>
            refine ⟨k + 1, by have := HXY.out.2.2; omega, by go_num, ⟨?_⟩, ⟨HBW.out.setCell hge _⟩, ⟨HKW.out.set_ _ _⟩⟩
            simp only [addW]
            rw [← HXY.out.1, ← HXY.out.2.1]
            exact HIW.out.set k _
        · have hd : decide ((k : Int) < 8) = false := by simp; omega
          have hk8 : k = 8 := by omega
          rw [hk8] at HI
          clear hk8 hk hlt
          go_wp2_with fail
          go_end0
          refine ⟨rfl, ?_, HB.out, HK.out⟩
          unfold Sums.take
          rw [← HWS.out, ← HX.out]
          exact HI.out
end Go.Proofs.YteamljekjncbfaaDoor.P
end
