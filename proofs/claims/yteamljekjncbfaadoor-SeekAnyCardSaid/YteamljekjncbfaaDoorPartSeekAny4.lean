/- Lemmas of this claim, part 4. -/
import Derived.Test.YteamljekjncbfaaDoorPartSeekAny3
import Derived.Test.YteamljekjncbfaaDoorPartSeekAny2
import Derived.WalkSpells
import Derived.WalkLawsBesides
import Derived.Deep.RegionHeld3
import Derived.IntWalk
import Derived.StillTailTactics
import Derived.Laws.CopyOwn
section
set_option linter.unusedVariables false
set_option linter.unusedSimpArgs false
namespace Go.Proofs.YteamljekjncbfaaDoor.P
open Go.RowKit Go.Proofs.YteamljekjncbfaaDoorW.PrintWords Go.Proofs.YteamljekjncbfaaDoorW.PrintLast Go.Proofs.YteamljekjncbfaaDoorW.PrintMore
def words (xs : List Int) : Array Value := (xs.map (Value.int .u32)).toArray
theorem words_get (xs : List Int) (i : Nat) (h : i < xs.length) : (words xs)[i]? = some (.int .u32 (xs.getD i 0)) := by
  unfold words
  rw [List.getElem?_toArray, List.getElem?_map, List.getElem?_eq_getElem h, List.getD_eq_getElem?_getD, List.getElem?_eq_getElem h]
  rfl
theorem words_set (xs : List Int) (i : Nat) (x : Int) : (words xs).setIfInBounds i (.int .u32 x) = words (xs.set i x) := by
  unfold words
  rw [List.map_set]
  simp
def IsWords (w : World) (g t : Nat) (xs : List Int) : Prop := w.heap[g]? = some (.cells (words xs) t (0, 0))
theorem IsWords.cell {w : World} {g t : Nat} {xs : List Int} (h : IsWords w g t xs) (i : Nat) (hi : i < xs.length) : w.cell? ⟨g, i, none⟩ = some (.int .u32 (xs.getD i 0)) :=
  (blk_cell h i).trans (words_get xs i hi)
theorem IsWords.frozen {w : World} {g t : Nat} {xs : List Int} (h : IsWords w g t xs) (i : Nat) : w.frozen? ⟨g, i, none⟩ = false := blk_frozen h i
theorem IsWords.set {w : World} {g t : Nat} {xs : List Int} (h : IsWords w g t xs) (i : Nat) (x : Int) : IsWords (w.setCell ⟨g, i, none⟩ (.int .u32 x)) g t (xs.set i x) := by
  unfold IsWords
  rw [← words_set]
  exact blk_set h i _
theorem IsWords.drewN {w : World} {g t : Nat} {xs : List Int} (h : IsWords w g t xs) (n : Nat) : IsWords (w.drewN n) g t xs := h
def zeros64 : List Int := List.replicate 64 0
def sched2At (xs : List Int) (i : Nat) : Int := ((((sha_gamma.f (xs.getD (i - 2) 0) 17 19 10).getD 0 + xs.getD (i - 7) 0) % 4294967296 + (sha_gamma.f (xs.getD (i - 15) 0) 7 18 3).getD 0) % 4294967296 + xs.getD (i - 16) 0) % 4294967296
def sched2 (xs : List Int) : Nat → List Int
  | 0 => xs
  | k + 1 => (sched2 xs k).set (k + 16) (sched2At (sched2 xs k) (k + 16))
def sched1 (bs : List Int) : Nat → List Int
  | 0 => zeros64
  | k + 1 => (sched1 bs k).set (k / 4) (Go.bits .or .u32 (((sched1 bs k).getD (k / 4) 0) * 256 % 4294967296) (rd bs (k : Int) % 4294967296))
def schedule (bs : List Int) : List Int := sched2 (sched1 bs 64) 48
theorem sched1_length (bs : List Int) (k : Nat) : (sched1 bs k).length = 64 := by
  induction k with
  | zero => simp [sched1, zeros64]
  | succ k ih => simp [sched1, ih]
theorem sched2_length (xs : List Int) (k : Nat) (h : xs.length = 64) : (sched2 xs k).length = 64 := by
  induction k with
  | zero => exact h
  | succ k ih => simp [sched2, ih]
theorem cell_set_ne {w : World} {g i j n : Nat} {u : Value} (h : i ≠ j) (v : Value) (hc : w.cell? ⟨g, i, none⟩ = some u) : ((w.drewN n).setCell ⟨g, j, none⟩ v).cell? ⟨g, i, none⟩ = some u := by
  refine (World.cell?_setCell_other _ _ _ _ (fun e => ?_)).trans ?_
  · simp only [Addr.mk.injEq] at e
    omega
  · exact hc
theorem bits_u64_nonneg (op : BinOp) (x y : Int) : 0 ≤ Go.bits op .u64 x y := by
  unfold Go.bits
  rw [IntKind.wrap_u64]
  omega
theorem rot_some (x n : Int) : ∃ r, bits_RotateLeft32.f x n = some r := by
  unfold bits_RotateLeft32.f
  rw [if_pos (bits_u64_nonneg _ _ _), if_pos (by rw [IntKind.wrap_u64]; omega)]
  exact ⟨_, rfl⟩
theorem gamma_some (x a b c : Int) (hc : 0 ≤ c) : sha_gamma.f x a b c = some ((sha_gamma.f x a b c).getD 0) := by
  unfold sha_gamma.f
  obtain ⟨r1, h1⟩ := rot_some x (wrap64 (32 - a))
  obtain ⟨r2, h2⟩ := rot_some x (wrap64 (32 - b))
  rw [h1, h2]
  simp only [Option.bind_some]
  rw [if_pos hc]
  rfl
theorem sigma_some (x a b c : Int) : sha_sigma.f x a b c = some ((sha_sigma.f x a b c).getD 0) := by
  unfold sha_sigma.f
  obtain ⟨r1, h1⟩ := rot_some x (wrap64 (32 - a))
  obtain ⟨r2, h2⟩ := rot_some x (wrap64 (32 - b))
  obtain ⟨r3, h3⟩ := rot_some x (wrap64 (32 - c))
  rw [h1, h2, h3]
  rfl
set_option maxHeartbeats 1000000 in
set_option maxRecDepth 100000 in
theorem scheduleOf_calls (A0 : Option Addr) (c0 : Nat) (bs : List Int) (w : World) (hr : Kd.C (Kd.int .u8) w A0 bs.length bs) (hc : bs.length ≤ c0) (hl : 64 ≤ bs.length) (hb : bs.length < 9223372036854775807) :
    Calls Tryd.prog 122 #[.slice A0 bs.length c0] w fun e w' => e = .returned (.pointer (some ⟨w.heap.size, 0, none⟩)) ∧ IsWords w' w.heap.size 152 (schedule bs) ∧ Below w.heap.size w w' := by
  have HR := Aside0.mk hr
  have hc64 : 64 ≤ c0 := by omega
  clear hr hc
  go_enter Tryd.func122, Tryd.ntmps122
  go_wp2_with fail
  obtain ⟨g, hg⟩ : ∃ g, g = w.heap.size := ⟨_, rfl⟩
  rw [← hg]
  have HG := Aside0.mk hg
  clear hg
  go_loopw [10] (fun v10 wr => ∃ k : Nat, k ≤ 64 ∧ v10 = .int .i64 k ∧ Aside0 (IsWords wr g 152 (sched1 bs k)) ∧ Aside0 (Below w.heap.size w wr)) (fun v10 _ => 64 - (intOf v10).toNat)
  case atStart => exact ⟨0, by omega, rfl, ⟨by rw [HG.out]; exact heap_alloc_new w _⟩, ⟨below_alloc (Below.refl _ _) _⟩⟩
  case round =>
    obtain ⟨k, hk, rfl, HI, HB⟩ := hrel
    by_cases hlt : k < 64
    · have hd : decide ((k : Int) < 64) = true := by simp; omega
      obtain ⟨ad, rfl, hx0⟩ := Kd.at_int HR.out (k : Int) (by omega) (by omega)
      have hx := (HB.out.cell (World.block_lt_of_cell? w _ hx0)).trans hx0
      clear hx0
      rw [Int.toNat_natCast] at hx
      have hk4 : k / 4 < 64 := by omega
      have hc := HI.out.cell (k / 4) (by rw [sched1_length]; omega)
      have hf := HI.out.frozen (k / 4)
      go_wp2_with fail
      go_roundw
      case rel =>
        refine ⟨k + 1, by omega, by go_num, ⟨?_⟩, ⟨HB.out.setCell (by show w.heap.size ≤ g; rw [HG.out]; omega) _⟩⟩
        have := HI.out.set (k / 4) (Go.bits .or .u32 (((sched1 bs k).getD (k / 4) 0) * 256 % 4294967296) (rd bs (k : Int) % 4294967296))
        rw [List.getD_eq_getElem?_getD] at this
        simpa only [sched1, List.getD_eq_getElem?_getD] using this
      case measure => simp [intOf]; omega
    · have hd : decide ((k : Int) < 64) = false := by simp; omega
      have hk64 : k = 64 := by omega
      rw [hk64] at HI
      clear hk64 hk hlt
      go_wp2_with fail
      obtain ⟨xs0, hxs0⟩ : ∃ xs, xs = sched1 bs 64 := ⟨_, rfl⟩
      have hl0 : xs0.length = 64 := by rw [hxs0]; exact sched1_length _ _
      rw [← hxs0] at HI
      have HL0 := Aside0.mk hl0
      have HX0 := Aside0.mk hxs0
      clear hl0 hxs0 hd
      go_loopw [6] (fun v6 wr => ∃ k : Nat, k ≤ 48 ∧ v6 = .int .i64 (16 + k : Nat) ∧ Aside0 (IsWords wr g 152 (sched2 xs0 k)) ∧ Aside0 (Below w.heap.size w wr)) (fun v6 _ => 64 - (intOf v6).toNat)
      case atStart => exact ⟨0, by omega, rfl, HI, HB⟩
      case round =>
        obtain ⟨k, hk, rfl, HI, HB⟩ := hrel
        by_cases hlt : k < 48
        · obtain ⟨j, hj⟩ : ∃ j, j = 16 + k := ⟨_, rfl⟩
          rw [← hj]
          obtain ⟨xs, hxs⟩ : ∃ xs, xs = sched2 xs0 k := ⟨_, rfl⟩
          rw [← hxs] at HI
          have hxl : xs.length = 64 := by rw [hxs]; exact sched2_length xs0 k HL0.out
          have HXS := Aside0.mk hxs
          have HJ := Aside0.mk hj
          have j0 : 16 ≤ j := by omega
          have j1 : j < 64 := by omega
          obtain ⟨x2, hx2⟩ : ∃ x, x = xs.getD (j - 2) 0 := ⟨_, rfl⟩
          obtain ⟨x7, hx7⟩ : ∃ x, x = xs.getD (j - 7) 0 := ⟨_, rfl⟩
          obtain ⟨x15, hx15⟩ : ∃ x, x = xs.getD (j - 15) 0 := ⟨_, rfl⟩
          obtain ⟨x16, hx16⟩ : ∃ x, x = xs.getD (j - 16) 0 := ⟨_, rfl⟩
          obtain ⟨j2, hj2⟩ : ∃ x, x = j - 2 := ⟨_, rfl⟩
          have c2 := HI.out.cell (j - 2) (by omega)
          rw [← hj2] at c2 hx2
          have HJ2 := Aside0.mk hj2
          clear hj2
          obtain ⟨j7, hj7⟩ : ∃ x, x = j - 7 := ⟨_, rfl⟩
          have c7 := HI.out.cell (j - 7) (by omega)
          rw [← hj7] at c7 hx7
          have HJ7 := Aside0.mk hj7
          clear hj7
          obtain ⟨j15, hj15⟩ : ∃ x, x = j - 15 := ⟨_, rfl⟩
          have c15 := HI.out.cell (j - 15) (by omega)
          rw [← hj15] at c15 hx15
          have HJ15 := Aside0.mk hj15
          clear hj15
          obtain ⟨j16, hj16⟩ : ∃ x, x = j - 16 := ⟨_, rfl⟩
          have c16 := HI.out.cell (j - 16) (by omega)
          rw [← hj16] at c16 hx16
          have HJ16 := Aside0.mk hj16
          clear hj16
          rw [← hx2] at c2
          rw [← hx7] at c7
          rw [← hx15] at c15
          rw [← hx16] at c16
          have hf := HI.out.frozen j
          have hcj := HI.out.cell j (by omega)
          have HX := Aside0.mk (And.intro hx2 (And.intro hx7 (And.intro hx15 hx16)))
          have G1 := Aside0.mk (gamma_some x2 17 19 10 (by omega))
          have G2 := Aside0.mk (gamma_some x15 7 18 3 (by omega))
          obtain ⟨y1, hy1⟩ : ∃ y, y = (sha_gamma.f x2 17 19 10).getD 0 := ⟨_, rfl⟩
          obtain ⟨y2, hy2⟩ : ∃ y, y = (sha_gamma.f x15 7 18 3).getD 0 := ⟨_, rfl⟩
          rw [← hy1] at G1
          rw [← hy2] at G2
          have HY := Aside0.mk (And.intro hy1 hy2)
          have HXL := Aside0.mk hxl
          have HK := Aside0.mk hlt
          clear hj hxs hx2 hx7 hx15 hx16 hy1 hy2 hxl hlt
          have hd : decide ((j : Int) < 64) = true := by simp; omega
          have pj : 0 ≤ (j : Int) := by omega
          have qj : (j : Int) < 64 := by omega
          go_wp2_with fail
          have w2 : IntKind.i64.wrap (j2 : Int) = (j2 : Int) := by have := HJ2.out; exact IntWalk.i64_in _ ⟨by omega, by omega⟩
          have q2 : (j2 : Int) < 64 := by have := HJ2.out; omega
          have p2 : 0 ≤ (j2 : Int) := by omega
          have e2 : (j : Int) - 2 = (j2 : Int) := by have := HJ2.out; omega
          have w7 : IntKind.i64.wrap (j7 : Int) = (j7 : Int) := by have := HJ7.out; exact IntWalk.i64_in _ ⟨by omega, by omega⟩
          have q7 : (j7 : Int) < 64 := by have := HJ7.out; omega
          have p7 : 0 ≤ (j7 : Int) := by omega
          have e7 : (j : Int) - 7 = (j7 : Int) := by have := HJ7.out; omega
          have w15 : IntKind.i64.wrap (j15 : Int) = (j15 : Int) := by have := HJ15.out; exact IntWalk.i64_in _ ⟨by omega, by omega⟩
          have q15 : (j15 : Int) < 64 := by have := HJ15.out; omega
          have p15 : 0 ≤ (j15 : Int) := by omega
          have e15 : (j : Int) - 15 = (j15 : Int) := by have := HJ15.out; omega
          have w16 : IntKind.i64.wrap (j16 : Int) = (j16 : Int) := by have := HJ16.out; exact IntWalk.i64_in _ ⟨by omega, by omega⟩
          have q16 : (j16 : Int) < 64 := by have := HJ16.out; omega
          have p16 : 0 ≤ (j16 : Int) := by omega
          have e16 : (j : Int) - 16 = (j16 : Int) := by have := HJ16.out; omega
          go_region_held3 (fun w' => w'.cell? ⟨g, j2, none⟩ = some (.int .u32 x2) ∧ w'.cell? ⟨g, j7, none⟩ = some (.int .u32 x7) ∧ w'.cell? ⟨g, j15, none⟩ = some (.int .u32 x15) ∧ w'.cell? ⟨g, j16, none⟩ = some (.int .u32 x16)) (first | go_keep | exact ⟨cell_set_ne (by have := HJ2.out; omega) _ c2, cell_set_ne (by have := HJ7.out; omega) _ c7, cell_set_ne (by have := HJ15.out; omega) _ c15, cell_set_ne (by have := HJ16.out; omega) _ c16⟩) (first | (go_at_call 124; ((with_reducible refine (sha_gamma.calls x2 17 19 10 y1 _ G1.out).mono ?_); rintro e w' ⟨rfl, ⟨m1, rfl⟩⟩)) | (go_at_call 124; ((with_reducible refine (sha_gamma.calls x15 7 18 3 y2 _ G2.out).mono ?_); rintro e w' ⟨rfl, ⟨m2, rfl⟩⟩)))
          go_wp2_with fail
          go_roundw
          case rel =>
            have hX := HX.out
            have hY := HY.out
            have hv : (((y1 + x7) % 4294967296 + y2) % 4294967296 + x16) % 4294967296 = sched2At (sched2 xs0 k) (k + 16) := by
              unfold sched2At
              rw [← HXS.out, show k + 16 = j from by rw [HJ.out]; omega, ← HJ2.out, ← HJ7.out, ← HJ15.out, ← HJ16.out, ← hX.1, ← hX.2.1, ← hX.2.2.1, ← hX.2.2.2, ← hY.1, ← hY.2]
            refine ⟨k + 1, by have := HK.out; omega, by rw [HJ.out]; go_num, ⟨?_⟩, ⟨(pw_below_drewN HB.out _).setCell (by show w.heap.size ≤ g; rw [HG.out]; omega) _⟩⟩
            rw [hv]
            have h1 := (HI.out.drewN (1 + m1 + m2)).set j (sched2At (sched2 xs0 k) (k + 16))
            have h2 : sched2 xs0 (k + 1) = xs.set j (sched2At (sched2 xs0 k) (k + 16)) := by
              simp only [sched2]
              rw [← HXS.out, show k + 16 = j from by rw [HJ.out]; omega]
            rw [h2]
            exact h1
          case measure => simp [intOf]; have := HJ.out; omega
        · have hd : decide (((16 + k : Nat) : Int) < 64) = false := by simp; omega
          obtain rfl : k = 48 := by omega
          go_wp2_with fail
          go_ret
          rw [← HG.out]
          refine ⟨rfl, ?_, by rw [HG.out]; exact HB.out⟩
          unfold schedule
          rw [← HX0.out]
          exact HI.out
end Go.Proofs.YteamljekjncbfaaDoor.P
end
section
set_option linter.unusedVariables false
set_option linter.unusedSimpArgs false
namespace Go.Proofs.YteamljekjncbfaaDoor.P
open Go.RowKit Go.Proofs.YteamljekjncbfaaDoorW.PrintWords Go.Proofs.YteamljekjncbfaaDoorW.PrintLast Go.Proofs.YteamljekjncbfaaDoorW.PrintMore
structure Sums where
  a : Int
  b : Int
  c : Int
  d : Int
  e : Int
  f : Int
  g : Int
  h : Int
def Sums.list (s : Sums) : List Int := [s.a, s.b, s.c, s.d, s.e, s.f, s.g, s.h]
def Sums.round (s : Sums) (add wi : Int) : Sums :=
  let t := (s.h + (sha_sigma.f s.e 6 11 25).getD 0 + Go.bits .xor .u32 (Go.bits .and .u32 s.e (Go.bits .xor .u32 s.f s.g)) s.g + add + wi) % 4294967296
  let u := ((sha_sigma.f s.a 2 13 22).getD 0 + Go.bits .or .u32 (Go.bits .and .u32 s.a (Go.bits .or .u32 s.b s.c)) (Go.bits .and .u32 s.b s.c)) % 4294967296
  ⟨(t + u) % 4294967296, s.a, s.b, s.c, (s.d + t) % 4294967296, s.e, s.f, s.g⟩
def Sums.rounds (ws : List Int) (s : Sums) : Nat → Sums
  | 0 => s
  | k + 1 => (Sums.rounds ws s k).round (shaAdded.getD k 0) (ws.getD k 0)
def addW (xs ys : List Int) : Nat → List Int
  | 0 => xs
  | k + 1 => (addW xs ys k).set k (((addW xs ys k).getD k 0 + ys.getD k 0) % 4294967296)
theorem addW_length (xs ys : List Int) (k : Nat) : (addW xs ys k).length = xs.length := by
  induction k with
  | zero => rfl
  | succ k ih => simp [addW, ih]
def Sums.take (s : Sums) (bs : List Int) : List Int := addW (Sums.rounds (schedule bs) s 64).list s.list 8
set_option maxRecDepth 100000 in
theorem sums_index (s : Sums) (k : Nat) (hk : k < 8) (w : World) : (Instr.index 141 (.agg #[.int .u32 s.a, .int .u32 s.b, .int .u32 s.c, .int .u32 s.d, .int .u32 s.e, .int .u32 s.f, .int .u32 s.g, .int .u32 s.h]) (.int .i64 (k : Int))).run Tryd.prog w = .ok (.int .u32 (s.list.getD k 0)) w := by
  rcases (show k = 0 ∨ k = 1 ∨ k = 2 ∨ k = 3 ∨ k = 4 ∨ k = 5 ∨ k = 6 ∨ k = 7 by omega) with rfl | rfl | rfl | rfl | rfl | rfl | rfl | rfl
  all_goals kernel_rfl
theorem IsSums.cells {w : World} {g t : Nat} {s : Sums} (h : IsWords w g t s.list) :
    w.cell? ⟨g, 0, none⟩ = some (.int .u32 s.a) ∧ w.cell? ⟨g, 1, none⟩ = some (.int .u32 s.b) ∧ w.cell? ⟨g, 2, none⟩ = some (.int .u32 s.c) ∧ w.cell? ⟨g, 3, none⟩ = some (.int .u32 s.d) ∧
    w.cell? ⟨g, 4, none⟩ = some (.int .u32 s.e) ∧ w.cell? ⟨g, 5, none⟩ = some (.int .u32 s.f) ∧ w.cell? ⟨g, 6, none⟩ = some (.int .u32 s.g) ∧ w.cell? ⟨g, 7, none⟩ = some (.int .u32 s.h) :=
  ⟨blk_cell h 0, blk_cell h 1, blk_cell h 2, blk_cell h 3, blk_cell h 4, blk_cell h 5, blk_cell h 6, blk_cell h 7⟩
def put8 (w : World) (g : Nat) (v0 v1 v2 v3 v4 v5 v6 v7 : Int) : World :=
  ((((((((w.setCell ⟨g, 0, none⟩ (.int .u32 v0)).setCell ⟨g, 1, none⟩ (.int .u32 v1)).setCell ⟨g, 2, none⟩ (.int .u32 v2)).setCell ⟨g, 3, none⟩ (.int .u32 v3)).setCell ⟨g, 4, none⟩ (.int .u32 v4)).setCell ⟨g, 5, none⟩ (.int .u32 v5)).setCell ⟨g, 6, none⟩ (.int .u32 v6)).setCell ⟨g, 7, none⟩ (.int .u32 v7))
theorem put8_words {w : World} {g t : Nat} {s : Sums} (h : IsWords w g t s.list) (v0 v1 v2 v3 v4 v5 v6 v7 : Int) : IsWords (put8 w g v0 v1 v2 v3 v4 v5 v6 v7) g t [v0, v1, v2, v3, v4, v5, v6, v7] :=
  (((((((h.set 0 v0).set 1 v1).set 2 v2).set 3 v3).set 4 v4).set 5 v5).set 6 v6).set 7 v7
theorem put8_far {w : World} {g g2 t : Nat} {xs : List Int} (h : IsWords w g2 t xs) (hne : g2 ≠ g) (v0 v1 v2 v3 v4 v5 v6 v7 : Int) : IsWords (put8 w g v0 v1 v2 v3 v4 v5 v6 v7) g2 t xs := by
  exact blk_far (blk_far (blk_far (blk_far (blk_far (blk_far (blk_far (blk_far (h) hne _) hne _) hne _) hne _) hne _) hne _) hne _) hne _
theorem put8_below {w0 w : World} {g : Nat} (h : Below w0.heap.size w0 w) (hg : w0.heap.size ≤ g) (v0 v1 v2 v3 v4 v5 v6 v7 : Int) : Below w0.heap.size w0 (put8 w g v0 v1 v2 v3 v4 v5 v6 v7) := by
  exact Below.setCell (Below.setCell (Below.setCell (Below.setCell (Below.setCell (Below.setCell (Below.setCell (Below.setCell (h) hg _) hg _) hg _) hg _) hg _) hg _) hg _) hg _
theorem put8_keep {w0 w : World} {g : Nat} (h : KeepBut w0 w g none) (v0 v1 v2 v3 v4 v5 v6 v7 : Int) : KeepBut w0 (put8 w g v0 v1 v2 v3 v4 v5 v6 v7) g none := by
  exact KeepBut.set_ (KeepBut.set_ (KeepBut.set_ (KeepBut.set_ (KeepBut.set_ (KeepBut.set_ (KeepBut.set_ (KeepBut.set_ (h) _ _) _ _) _ _) _ _) _ _) _ _) _ _) _ _
theorem quiet_drawn {P : Program} {f : FuncId} {args : Array Value} {w : World} {n : Nat} {v : Value}
    (h : Calls P f args (w.drewN n) fun e w' => e = .returned v ∧ Drawn0 (w.drewN n) w') : Calls P f args (w.drewN n) fun e w'' => e = .returned v ∧ ∃ m, w'' = w.drewN m :=
  Calls.quiet_of (h.mono fun _ _ ⟨he, hd⟩ => ⟨he, hd.out⟩)
theorem quiet_drawn2 {P : Program} {f : FuncId} {args : Array Value} {w : World} {q n : Nat} {v : Value}
    (h : Calls P f args (w.drewN (q + n)) fun e w' => e = .returned v ∧ Drawn0 (w.drewN (q + n)) w') : Calls P f args (w.drewN (q + n)) fun e w'' => e = .returned v ∧ ∃ m, w'' = w.drewN (q + m) :=
  h.mono fun _ _ ⟨he, hd⟩ => by
    obtain ⟨m, hm⟩ := hd.out
    exact ⟨he, n + m, by rw [hm, World.drewN_drewN, Nat.add_assoc]⟩
theorem still_tail_at {P : Program} {id : Nat} {Q : Exit → Act → World → Prop} {a : Act} {w : World} {l : List Oper} (n : Nat) (hm : P.follows .mixedOrders = true) (hB : Region.lexTailB .any l.toArray n = true)
    (h : ∀ W : World, W = w.drew → wpStill P l.toArray W (fun a' => wpList P l.toArray Q (l.drop n) a' W) (l.take n) a) : (Code.region id l.toArray true).wp P Q a w :=
  wp_region_still_tail n hm hB (h _ rfl)
set_option maxHeartbeats 4000000 in
set_option maxRecDepth 100000 in
theorem take_calls (g : Nat) (s : Sums) (A0 : Option Addr) (cap : Nat) (bs : List Int) (w0 w : World) (hI : IsWords w g 141 s.list) (hge : w0.heap.size ≤ g) (hr : Kd.C (Kd.int .u8) w A0 bs.length bs) (hc : bs.length ≤ cap) (hl : 64 ≤ bs.length) (hb : bs.length < 9223372036854775807)
    (hB : Below w0.heap.size w0 w) (hGS : GlobS w0) :
    Calls Tryd.prog 115 #[.pointer (some ⟨g, 0, none⟩), .slice A0 bs.length cap] w fun e w' => e = .returned (.tuple #[]) ∧ IsWords w' g 141 (s.take bs) ∧ Below w0.heap.size w0 w' ∧ KeepBut w w' g none := by
  have HLT := Aside0.mk (blk_lt hI)
  have HR := Aside0.mk hr
  have HI := Aside0.mk hI
  have HB := Aside0.mk hB
  have HGS := Aside0.mk hGS
  clear hr hI hB hGS
  go_enter Tryd.func115, Tryd.ntmps115
  go_wp2_with fail
  refine (scheduleOf_calls A0 cap bs w HR.out hc hl hb).mono ?_
  rintro e1 w1 ⟨rfl, hW1, hB1⟩
  have hI1 : IsWords w1 g 141 s.list := blk_below HI.out hB1
  obtain ⟨c0, c1, c2, c3, c4, c5, c6, c7⟩ := IsSums.cells hI1
  have HI1 := Aside0.mk hI1
  have HB1 := Aside0.mk hB1
  have HW1 := Aside0.mk hW1
  clear hW1 hI1 hB1
  go_wp2_with fail
  obtain ⟨gw, hgw⟩ : ∃ x, x = w.heap.size := ⟨_, rfl⟩
  obtain ⟨gs, hgs⟩ : ∃ x, x = w1.heap.size := ⟨_, rfl⟩
  rw [← hgw, ← hgs]
  have HGW := Aside0.mk hgw
  have HGSz := Aside0.mk hgs
  obtain ⟨ws, hws⟩ : ∃ x, x = schedule bs := ⟨_, rfl⟩
  have HWS := Aside0.mk hws
  clear hgw hgs hws c0 c1 c2 c3 c4 c5 c6 c7
  go_loopw [18] (fun v18 wr => ∃ k : Nat, k ≤ 64 ∧ v18 = .int .i64 k ∧ Aside0 (IsWords wr g 141 (Sums.rounds ws s k).list) ∧ Aside0 (IsWords wr gw 152 ws) ∧ Aside0 (IsWords wr gs 141 s.list) ∧ Aside0 (Below w0.heap.size w0 wr) ∧ Aside0 (KeepBut w wr g none)) (fun v18 _ => 64 - (intOf v18).toNat)
  case atStart =>
    refine ⟨0, by omega, rfl, ⟨blk_alloc HI1.out _⟩, ⟨?_⟩, ⟨?_⟩, ⟨below_alloc (below_then HB.out HB.out.size HB1.out) _⟩, ⟨?_⟩⟩
    · rw [HWS.out, HGW.out]
      exact blk_alloc HW1.out _
    · rw [HGSz.out]
      exact heap_alloc_new w1 _
    · exact ⟨by have := HB1.out.size; simp; omega, fun i hi _ _ => (Below.heap_alloc _ _ _ (by have := HB1.out.size; omega)).trans (HB1.out.block i hi)⟩
  case round =>
    obtain ⟨k, hk, rfl, HI, HW, HS, HB, HK⟩ := hrel
    by_cases hlt : k < 64
    · have hd : decide ((k : Int) < 64) = true := by simp; omega
      obtain ⟨S, hS⟩ : ∃ x, x = Sums.rounds ws s k := ⟨_, rfl⟩
      rw [← hS] at HI
      obtain ⟨c0, c1, c2, c3, c4, c5, c6, c7⟩ := IsSums.cells HI.out
      have f0 := HI.out.frozen 0
      have hws64 : ws.length = 64 := by rw [HWS.out]; exact sched2_length _ _ (sched1_length _ _)
      have cw := HW.out.cell k (by omega)
      have ca := (GlobS.of HGS.out HB.out).2 k hlt
      obtain ⟨wi, hwi⟩ : ∃ x, x = ws.getD k 0 := ⟨_, rfl⟩
      obtain ⟨ai, hai⟩ : ∃ x, x = shaAdded.getD k 0 := ⟨_, rfl⟩
      rw [← hwi] at cw
      rw [← hai] at ca
      have pk : 0 ≤ (k : Int) := by omega
      have qk : (k : Int) < 64 := by omega
      have G1 := Aside0.mk (sigma_some S.e 6 11 25)
      have G2 := Aside0.mk (sigma_some S.a 2 13 22)
      obtain ⟨y1, hy1⟩ : ∃ y, y = (sha_sigma.f S.e 6 11 25).getD 0 := ⟨_, rfl⟩
      obtain ⟨y2, hy2⟩ : ∃ y, y = (sha_sigma.f S.a 2 13 22).getD 0 := ⟨_, rfl⟩
      rw [← hy1] at G1
      rw [← hy2] at G2
      have HX := Aside0.mk (And.intro hS (And.intro hwi (And.intro hai (And.intro hy1 (And.intro hy2 hlt)))))
      clear hS hwi hai hy1 hy2 hws64 hlt
      go_wp2_with fail
      go_quiet (fail)
      go_wp2_with fail
      go_quiet ((go_at_call 123; (first | exact quiet_drawn2 (sha_sigma.calls S.e 6 11 25 y1 _ G1.out) | exact quiet_drawn (sha_sigma.calls S.e 6 11 25 y1 _ G1.out))))
      go_wp2_with fail
      go_quiet ((go_at_call 123; (first | exact quiet_drawn2 (sha_sigma.calls S.a 2 13 22 y2 _ G2.out) | exact quiet_drawn (sha_sigma.calls S.a 2 13 22 y2 _ G2.out))))
      go_wp2_with fail
      refine still_tail_at 30 (by kernel_rfl) (by kernel_rfl) (fun W hW => ?_)
      have HIW : IsWords W g 141 S.list := by rw [hW]; exact HI.out
      have HWW : Aside0 (IsWords W gw 152 ws) := ⟨by rw [hW]; exact HW.out⟩
      have HSW : Aside0 (IsWords W gs 141 s.list) := ⟨by rw [hW]; exact HS.out⟩
      have HBW : Aside0 (Below w0.heap.size w0 W) := ⟨by rw [hW]; exact below_drew1 (pw_below_drewN (pw_below_drewN (pw_below_drewN HB.out _) _) _)⟩
      have HKW : Aside0 (KeepBut w W g none) := ⟨by rw [hW]; exact HK.out⟩
      obtain ⟨c0, c1, c2, c3, c4, c5, c6, c7⟩ := IsSums.cells HIW
      have f0 := HIW.frozen 0
      have f1 := HIW.frozen 1
      have f2 := HIW.frozen 2
      have f3 := HIW.frozen 3
      have f4 := HIW.frozen 4
      have f5 := HIW.frozen 5
      have f6 := HIW.frozen 6
      have f7 := HIW.frozen 7
      have HIw := Aside0.mk HIW
      clear HIW hW HI HW HS HB HK cw ca
      simp only [List.take_succ_cons, List.take_zero, List.drop_succ_cons, List.drop_zero]
      repeat still_step
      refine wpStill_nil ?_
      go_wp2_with fail
      go_roundw
      case measure => simp [intOf]; have := HX.out.2.2.2.2.2; omega
      case rel =>
        refine ⟨k + 1, by have := HX.out.2.2.2.2.2; omega, by go_num, ⟨?_⟩, ⟨?_⟩, ⟨?_⟩, ⟨?_⟩, ⟨?_⟩⟩
        · have hX := HX.out
          have hp := put8_words HIw.out ((S.h + y1 + Go.bits .xor .u32 (Go.bits .and .u32 S.e (Go.bits .xor .u32 S.f S.g)) S.g + ai + wi + (y2 + Go.bits .or .u32 (Go.bits .and .u32 S.a (Go.bits .or .u32 S.b S.c)) (Go.bits .and .u32 S.b S.c))) % 4294967296) S.a S.b S.c ((S.d + (S.h + y1 + Go.bits .xor .u32 (Go.bits .and .u32 S.e (Go.bits .xor .u32 S.f S.g)) S.g + ai + wi)) % 4294967296) S.e S.f S.g
          have hq : (Sums.rounds ws s (k + 1)).list = [(S.h + y1 + Go.bits .xor .u32 (Go.bits .and .u32 S.e (Go.bits .xor .u32 S.f S.g)) S.g + ai + wi + (y2 + Go.bits .or .u32 (Go.bits .and .u32 S.a (Go.bits .or .u32 S.b S.c)) (Go.bits .and .u32 S.b S.c))) % 4294967296, S.a, S.b, S.c, (S.d + (S.h + y1 + Go.bits .xor .u32 (Go.bits .and .u32 S.e (Go.bits .xor .u32 S.f S.g)) S.g + ai + wi)) % 4294967296, S.e, S.f, S.g] := by
            simp only [Sums.rounds]
            rw [← hX.1, ← hX.2.1, ← hX.2.2.1]
            simp only [Sums.round, Sums.list]
            rw [← hX.2.2.2.1, ← hX.2.2.2.2.1]
            generalize Go.bits .xor .u32 (Go.bits .and .u32 S.e (Go.bits .xor .u32 S.f S.g)) S.g = X
            generalize Go.bits .or .u32 (Go.bits .and .u32 S.a (Go.bits .or .u32 S.b S.c)) (Go.bits .and .u32 S.b S.c) = Y
            have q1 : ((S.h + y1 + X + ai + wi) % 4294967296 + (y2 + Y) % 4294967296) % 4294967296 = (S.h + y1 + X + ai + wi + (y2 + Y)) % 4294967296 := by omega
            have q2 : (S.d + (S.h + y1 + X + ai + wi) % 4294967296) % 4294967296 = (S.d + (S.h + y1 + X + ai + wi)) % 4294967296 := by omega
            rw [q1, q2]
          rw [hq]
          exact hp
        · exact put8_far HWW.out (by rw [HGW.out]; have := HLT.out; omega) _ _ _ _ _ _ _ _
        · exact put8_far HSW.out (by rw [HGSz.out]; have := HLT.out; have := HB1.out.size; omega) _ _ _ _ _ _ _ _
        · exact put8_below HBW.out hge _ _ _ _ _ _ _ _
        · exact put8_keep HKW.out _ _ _ _ _ _ _ _
    · have hd : decide ((k : Int) < 64) = false := by simp; omega
      have hk64 : k = 64 := by omega
      rw [hk64] at HI
      obtain ⟨S, hS⟩ : ∃ x, x = Sums.rounds ws s 64 := ⟨_, rfl⟩
      rw [← hS] at HI
      obtain ⟨c0, c1, c2, c3, c4, c5, c6, c7⟩ := IsSums.cells HS.out
      have HX := Aside0.mk hS
      clear hS hk64 hk hlt HW
      go_wp2_with fail
      clear c0 c1 c2 c3 c4 c5 c6 c7 hd HS
      go_loopw [119] (fun v119 wr => ∃ k : Nat, k ≤ 8 ∧ v119 = .int .i64 k ∧ Aside0 (IsWords wr g 141 (addW S.list s.list k)) ∧ Aside0 (Below w0.heap.size w0 wr) ∧ Aside0 (KeepBut w wr g none)) (fun v119 _ => 8 - (intOf v119).toNat)
      case atStart => exact ⟨0, by omega, rfl, HI, HB, HK⟩
      case round =>
        clear HI HB HK
        obtain ⟨k, hk, rfl, HI, HB, HK⟩ := hrel
        by_cases hlt : k < 8
        · have hd : decide ((k : Int) < 8) = true := by simp; omega
          have hix := sums_index s k hlt
          have pk : 0 ≤ (k : Int) := by omega
          have qk : (k : Int) < 8 := by omega
          obtain ⟨y, hy⟩ : ∃ y, y = s.list.getD k 0 := ⟨_, rfl⟩
          obtain ⟨x, hx⟩ : ∃ x, x = (addW S.list s.list k).getD k 0 := ⟨_, rfl⟩
          have hc := HI.out.cell k (by rw [addW_length]; exact hlt)
          have hf := HI.out.frozen k
          rw [← hx] at hc
          rw [← hy] at hix
          have HXY := Aside0.mk (And.intro hx (And.intro hy hlt))
          clear hx hy hlt
          go_wp2_with fail
          refine still_tail_at 9 (by kernel_rfl) (by kernel_rfl) (fun W hW => ?_)
          have hcW : W.cell? ⟨g, k, none⟩ = some (.int .u32 x) := by rw [hW]; exact hc
          have hfW : W.frozen? ⟨g, k, none⟩ = false := by rw [hW]; exact hf
          have HIW : Aside0 (IsWords W g 141 (addW S.list s.list k)) := ⟨by rw [hW]; exact HI.out⟩
          have HBW : Aside0 (Below w0.heap.size w0 W) := ⟨by rw [hW]; exact below_drew1 HB.out⟩
          have HKW : Aside0 (KeepBut w W g none) := ⟨by rw [hW]; exact HK.out⟩
          clear hW HI HB HK hc hf
          simp only [List.take_succ_cons, List.take_zero, List.drop_succ_cons, List.drop_zero]
          repeat still_step
          refine wpStill_nil ?_
          go_wp2_with fail
          go_roundw
          case measure => simp [intOf]; have := HXY.out.2.2; omega
          case rel =>
            refine ⟨k + 1, by have := HXY.out.2.2; omega, by go_num, ⟨?_⟩, ⟨HBW.out.setCell hge _⟩, ⟨HKW.out.set_ _ _⟩⟩
            simp only [addW]
            rw [← HXY.out.1, ← HXY.out.2.1]
            exact HIW.out.set k _
        · have hd : decide ((k : Int) < 8) = false := by simp; omega
          have hk8 : k = 8 := by omega
          rw [hk8] at HI
          clear hk8 hk hlt
          go_wp2_with fail
          go_end0
          refine ⟨rfl, ?_, HB.out, HK.out⟩
          unfold Sums.take
          rw [← HWS.out, ← HX.out]
          exact HI.out
end Go.Proofs.YteamljekjncbfaaDoor.P
end
section
set_option linter.unusedVariables false
set_option linter.unusedSimpArgs false
namespace Go.Proofs.YteamljekjncbfaaDoor.P
open Go.RowKit Go.Proofs.YteamljekjncbfaaDoorW.PrintWords Go.Proofs.YteamljekjncbfaaDoorW.PrintLast Go.Proofs.YteamljekjncbfaaDoorW.PrintMore
def Sums.of (l : List Int) : Sums := ⟨l.getD 0 0, l.getD 1 0, l.getD 2 0, l.getD 3 0, l.getD 4 0, l.getD 5 0, l.getD 6 0, l.getD 7 0⟩
theorem Sums.of_list (l : List Int) (h : l.length = 8) : (Sums.of l).list = l := by
  match l, h with
  | [a, b, c, d, e, f, g, h], _ => rfl
theorem Sums.take_length (s : Sums) (bs : List Int) : (s.take bs).length = 8 := by
  unfold Sums.take
  rw [addW_length]
  rfl
def Sums.blocks (s : Sums) (bs : List Int) : Nat → Sums
  | 0 => s
  | i + 1 => Sums.of ((Sums.blocks s bs i).take (bs.drop (64 * i)))
def Sums.first : Sums := Sums.of shaFirst
def tailBlocks (n : Nat) : Nat := if n % 64 + 9 > 64 then 2 else 1
def nblocks (n : Nat) : Nat := n / 64 + tailBlocks n
attribute [local go_sem] max2_int min2_int max_two min_two in
set_option maxHeartbeats 4000000 in
set_option maxRecDepth 100000 in
theorem blocks_calls (n : Nat) (hn : n ≤ 140737488355328) (w : World) :
    Calls Tryd.prog 116 #[.int .i64 (n : Int)] w fun e w' => e = .returned (.int .i64 (nblocks n : Int)) ∧ Below w.heap.size w w' := by
  have HB := Aside0.mk (Below.refl w.heap.size w)
  obtain ⟨j, hj⟩ : ∃ j : Int, j = (n : Int) := ⟨_, rfl⟩
  have hj0 : ¬ j < 0 := by omega
  have hmx : (if j < 0 then 0 else j) = j := if_neg hj0
  have hjm : j ≤ 140737488355328 := by omega
  have hj1 : 0 ≤ j := by omega
  rw [← hj]
  have hw0 : wrap64 (j / 64) = j / 64 := by unfold wrap64; omega
  have hw1 : wrap64 (j / 64 + 1) = j / 64 + 1 := by unfold wrap64; omega
  have hw2 : wrap64 (j / 64 + 1 + 1) = j / 64 + 1 + 1 := by unfold wrap64; omega
  by_cases c4 : j % 64 + 1 + 8 > 64
  · have c4b0 : decide (64 < j % 64 + 1 + 8) = true := decide_eq_true c4
    have hr : j / 64 + 1 + 1 = (nblocks n : Int) := by unfold nblocks tailBlocks; rw [if_pos (by omega)]; omega
    have HR := Aside0.mk hr
    clear hr c4 hj
    go_enter Tryd.func116, Tryd.ntmps116
    go_wp2
    go_ret
    exact ⟨by rw [← HR.out]; rfl, by repeat (first | (with_reducible first | exact HB.out | apply below_alloc | apply pw_below_drewN | apply below_drew1) | exact HB.out)⟩
  · have c4b0 : decide (64 < j % 64 + 1 + 8) = false := decide_eq_false c4
    have hr : j / 64 + 1 = (nblocks n : Int) := by unfold nblocks tailBlocks; rw [if_neg (by omega)]; omega
    have HR := Aside0.mk hr
    clear hr c4 hj
    go_enter Tryd.func116, Tryd.ntmps116
    go_wp2
    go_ret
    exact ⟨by rw [← HR.out]; rfl, by repeat (first | (with_reducible first | exact HB.out | apply below_alloc | apply pw_below_drewN | apply below_drew1) | exact HB.out)⟩
def IsBytes (w : World) (g t : Nat) (xs : List Int) : Prop := w.heap[g]? = some (.cells (xs.map (Value.int .u8)).toArray t (0, 0))
theorem IsBytes.cell {w : World} {g t : Nat} {xs : List Int} (h : IsBytes w g t xs) (i : Nat) (hi : i < xs.length) : w.cell? ⟨g, i, none⟩ = some (.int .u8 (xs.getD i 0)) := by
  refine (blk_cell h i).trans ?_
  rw [List.getElem?_toArray, List.getElem?_map, List.getElem?_eq_getElem hi, List.getD_eq_getElem?_getD, List.getElem?_eq_getElem hi]
  rfl
theorem IsBytes.frozen {w : World} {g t : Nat} {xs : List Int} (h : IsBytes w g t xs) (i : Nat) : w.frozen? ⟨g, i, none⟩ = false := blk_frozen h i
theorem IsBytes.set {w : World} {g t : Nat} {xs : List Int} (h : IsBytes w g t xs) (i : Nat) (x : Int) : IsBytes (w.setCell ⟨g, i, none⟩ (.int .u8 x)) g t (xs.set i x) := by
  unfold IsBytes
  have e : ((xs.set i x).map (Value.int .u8)).toArray = ((xs.map (Value.int .u8)).toArray).setIfInBounds i (.int .u8 x) := by rw [List.map_set]; simp
  rw [e]
  exact blk_set h i _
theorem IsBytes.C {w : World} {g t o n : Nat} {xs : List Int} (h : IsBytes w g t xs) (hn : o + n ≤ xs.length) (hm : n ≤ 9223372036854775807) : Kd.C (Kd.int .u8) w (some ⟨g, o, none⟩) n ((xs.drop o).take n) := by
  refine Kd.C_of_reads (h1 := fun _ => rfl) (d := 0) ⟨by rw [List.length_take, List.length_drop]; omega, hm, fun _ => ⟨_, rfl, fun j hj => ?_⟩⟩
  have := h.cell (o + j) (by omega)
  rw [show (Addr.add ⟨g, o, none⟩ j) = ⟨g, o + j, none⟩ from by simp [Addr.add]]
  rw [this]
  simp [List.getElem?_take, hj]
theorem IsBytes.R {w : World} {g e n base : Nat} {xs : List Int} (h : IsBytes w g e xs) (hb : base ≤ g) (hn : xs.length = n) (hm : n ≤ maxLen) : Kd.R (Kd.int .u8) e w base (fun _ => True) (.slice (some ⟨g, 0, none⟩) n n) xs := by
  subst hn
  refine Kd.R_of_own ⟨by simp [encs_length], .inr ⟨g, xs.length, _, rfl, hb, h, Nat.le_refl _, hm, by simp, by simp [encs, List.take_of_length_le]⟩⟩ (fun _ _ => trivial)
theorem IsBytes.lt {w : World} {g t : Nat} {xs : List Int} (h : IsBytes w g t xs) : g < w.heap.size := by
  unfold IsBytes at h
  obtain ⟨hl, -⟩ := Array.getElem?_eq_some_iff.1 h
  exact hl
theorem IsBytes.below {w w1 : World} {g t B : Nat} {xs : List Int} (h : IsBytes w g t xs) (hb : Below B w w1) (hg : g < B) : IsBytes w1 g t xs := (hb.block g hg).trans h
theorem IsWords.lt {w : World} {g t : Nat} {xs : List Int} (h : IsWords w g t xs) : g < w.heap.size := by
  unfold IsWords at h
  obtain ⟨hl, -⟩ := Array.getElem?_eq_some_iff.1 h
  exact hl
theorem IsWords.below {w w1 : World} {g t B : Nat} {xs : List Int} (h : IsWords w g t xs) (hb : Below B w w1) (hg : g < B) : IsWords w1 g t xs := (hb.block g hg).trans h
theorem copy_src {w : World} {A : Option Addr} {n : Nat} {xs : List Int} (h : Kd.C (Kd.int .u8) w A n xs) (g : Nat) :
    0 < (xs.map (Value.int .u8)).length → some (⟨g, 0, none⟩ : Addr) = some ⟨g, 0, none⟩ ∧ ∃ ad, A = some ad ∧ ∀ j v, (xs.map (Value.int .u8))[j]? = some v → w.cell? (ad.add j) = some v := by
  intro hp
  have hr := Kd.reads_of_C (d := 0) h
  rw [List.length_map] at hp
  obtain ⟨ad, e, hc⟩ := hr.2.2 (by have := hr.1; omega)
  refine ⟨rfl, ad, e, fun j v hj => ?_⟩
  rw [List.getElem?_map] at hj
  obtain ⟨x, hx, rfl⟩ := Option.map_eq_some_iff.1 hj
  obtain ⟨hl, -⟩ := List.getElem?_eq_some_iff.1 hx
  rw [hc j (by have := hr.1; omega)]
  simp [hx]
theorem IsBytes.of_splice {w : World} {g t n : Nat} {xs : List Int} (h : w.heap[g]? = some (.cells (splice (List.replicate n (Value.int .u8 0)) 0 (xs.map (Value.int .u8))).toArray t (0, 0))) : IsBytes w g t (xs ++ List.replicate (n - xs.length) 0) := by
  unfold IsBytes
  rw [h]
  simp [splice]
theorem pad_get (xs : List Int) (n : Nat) (h : xs.length < n) : (xs ++ List.replicate (n - xs.length) (0 : Int)).getD xs.length 0 = 0 := by
  rw [List.getD_eq_getElem?_getD, List.getElem?_append_right (Nat.le_refl _), Nat.sub_self, List.getElem?_replicate, if_pos (by omega)]
  rfl
def tail0 (rest : List Int) : List Int := (rest ++ List.replicate (128 - rest.length) 0).set rest.length 128
def tailLen (m : Nat) : Nat → Nat → Nat → List Int → List Int
  | 0, _, _, ys => ys
  | k + 1, x, i, ys => if 0 < x then tailLen m k (x / 256) (i + 1) (ys.set (m - i) ((x % 256 : Nat) : Int)) else ys
def tailSize (n : Nat) : Nat := 64 * tailBlocks n
def tailOf (bs : List Int) : List Int := tailLen (tailSize bs.length) 8 (bs.length * 8) 1 (tail0 (bs.drop (64 * (bs.length / 64))))
def wordByte (ws : List Int) (i : Nat) : Int := ws.getD (i / 4) 0 / 2 ^ (8 * (3 - i % 4)) % 256
theorem wordByte_0 (ws : List Int) (i : Nat) (h : i % 4 = 0) : wordByte ws i = ws[i / 4]?.getD 0 / 16777216 % 256 := by unfold wordByte; rw [h, List.getD_eq_getElem?_getD]; rfl
theorem wordByte_1 (ws : List Int) (i : Nat) (h : i % 4 = 1) : wordByte ws i = ws[i / 4]?.getD 0 / 65536 % 256 := by unfold wordByte; rw [h, List.getD_eq_getElem?_getD]; rfl
theorem wordByte_2 (ws : List Int) (i : Nat) (h : i % 4 = 2) : wordByte ws i = ws[i / 4]?.getD 0 / 256 % 256 := by unfold wordByte; rw [h, List.getD_eq_getElem?_getD]; rfl
theorem wordByte_3 (ws : List Int) (i : Nat) (h : i % 4 = 3) : wordByte ws i = ws[i / 4]?.getD 0 % 256 := by unfold wordByte; rw [h, List.getD_eq_getElem?_getD, show (2 : Int) ^ (8 * (3 - 3)) = 1 from rfl, Int.ediv_one]
def outB (ws : List Int) : Nat → List Int
  | 0 => List.replicate 32 0
  | i + 1 => (outB ws i).set i (wordByte ws i)
theorem outB_length (ws : List Int) (k : Nat) : (outB ws k).length = 32 := by
  induction k with
  | zero => rfl
  | succ k ih => simp [outB, ih]
def shaSum (bs : List Int) : List Int :=
  outB (Sums.blocks (Sums.blocks Sums.first bs (bs.length / 64)) ((tailOf bs).take (tailSize bs.length)) (tailBlocks bs.length)).list 32
set_option maxHeartbeats 4000000 in
set_option maxRecDepth 100000 in
theorem sum_any (A0 : Option Addr) (cap : Nat) (bs : List Int) (w : World) (hr : Kd.C (Kd.int .u8) w A0 bs.length bs) (hc : bs.length ≤ cap) (hb : bs.length ≤ 140737488355328) (hGS : GlobS w) :
    Calls Tryd.prog 109 #[.slice A0 bs.length cap] w fun e w' => ∃ v0_, e = .returned v0_ ∧ Kd.R (Kd.int .u8) 5 w' w.heap.size (fun _ => True) v0_ (shaSum bs) ∧ Below w.heap.size w w' := by
  obtain ⟨k0, k1, k2, k3, k4, k5, k6, k7⟩ : w.cell? ⟨2, 0, none⟩ = some (.int .u32 1779033703) ∧ w.cell? ⟨2, 1, none⟩ = some (.int .u32 3144134277) ∧ w.cell? ⟨2, 2, none⟩ = some (.int .u32 1013904242) ∧ w.cell? ⟨2, 3, none⟩ = some (.int .u32 2773480762) ∧ w.cell? ⟨2, 4, none⟩ = some (.int .u32 1359893119) ∧ w.cell? ⟨2, 5, none⟩ = some (.int .u32 2600822924) ∧ w.cell? ⟨2, 6, none⟩ = some (.int .u32 528734635) ∧ w.cell? ⟨2, 7, none⟩ = some (.int .u32 1541459225) :=
    ⟨hGS.1 0 (by omega), hGS.1 1 (by omega), hGS.1 2 (by omega), hGS.1 3 (by omega), hGS.1 4 (by omega), hGS.1 5 (by omega), hGS.1 6 (by omega), hGS.1 7 (by omega)⟩
  have HR := Aside0.mk hr
  have HC := Aside0.mk hc
  have HGS := Aside0.mk hGS
  have HBB := Aside0.mk hb
  clear hr hc hGS
  go_enter Tryd.func109, Tryd.ntmps109
  go_wp2_with fail
  clear k0 k1 k2 k3 k4 k5 k6 k7
  obtain ⟨gS, hgS⟩ : ∃ g, g = w.heap.size := ⟨_, rfl⟩
  rw [← hgS]
  have HGg := Aside0.mk hgS
  clear hgS
  go_loopw [0] (fun v0 wr => ∃ (i : Nat) (A : Option Addr) (c : Nat), 64 * i ≤ bs.length ∧ v0 = .slice A (bs.drop (64 * i)).length c ∧ Aside0 ((bs.drop (64 * i)).length ≤ c) ∧ Aside0 (Kd.C (Kd.int .u8) w A (bs.drop (64 * i)).length (bs.drop (64 * i))) ∧ Aside0 (IsWords wr gS 141 (Sums.blocks Sums.first bs i).list) ∧ Aside0 (Below w.heap.size w wr)) (fun v0 _ => match v0 with | .slice _ n _ => n | _ => 0)
  case atStart => exact ⟨0, A0, cap, by omega, rfl, HC, HR, ⟨by rw [HGg.out]; exact heap_alloc_new w _⟩, ⟨below_alloc (Below.refl _ _) _⟩⟩
  case round =>
    obtain ⟨i, A, c, hi, rfl, HCi, HRi, HI, HB⟩ := hrel
    obtain ⟨rs, hrs⟩ : ∃ rs, rs = bs.drop (64 * i) := ⟨_, rfl⟩
    have hrl : rs.length = bs.length - 64 * i := by rw [hrs, List.length_drop]
    rw [← hrs] at HCi HRi
    rw [← hrs]
    have HRS := Aside0.mk hrs
    have HRL := Aside0.mk hrl
    clear hrs
    by_cases hlt : 64 ≤ rs.length
    · have hd : decide ((64 : Int) ≤ (rs.length : Int)) = true := by simp; omega
      have HLT := Aside0.mk hlt
      have hle : rs.length < 9223372036854775807 := by omega
      clear hrl
      obtain ⟨i0, hi0, _, hsz0, _⟩ := info_parts info5
      obtain ⟨A2, hcut, hA2, hC2⟩ := print_drop_of (P := Tryd.prog) (Value.int .u8) 0 33 5 .i64 Tryd.underlying33 hi0 hsz0 A c rs 64 (by omega) (by omega) HCi.out
      have HA2 := Aside0.mk (Kd.C_of_reads (h1 := fun _ => rfl) (hA2 _ (Kd.reads_of_C HRi.out)))
      have HC2 := Aside0.mk hC2
      clear hA2 hC2 hi0 hsz0
      go_wp2_with fail
      refine (take_calls gS _ A c rs w _ HI.out (by rw [HGg.out]; exact Nat.le_refl _) (Kd.C_below HRi.out HB.out) HCi.out hlt hle HB.out HGS.out).mono ?_
      rintro e2 w2 ⟨rfl, hI2, hB2, hK2⟩
      have HI2 := Aside0.mk hI2
      have HB2 := Aside0.mk hB2
      clear hI2 hB2 hK2 HI HB
      go_wp2_with fail
      have hdr : rs.drop 64 = bs.drop (64 * (i + 1)) := by rw [HRS.out, List.drop_drop]; congr 1
      have hln : (bs.drop (64 * (i + 1))).length = rs.length - 64 := by rw [← hdr, List.length_drop]
      have hrl := HRL.out
      refine ⟨⟨i + 1, A2, c - 64, by omega, by rw [hln], ?_, ?_, ?_, HB2⟩, ?_⟩
      · exact ⟨by rw [← hdr]; exact HC2.out⟩
      · exact ⟨by rw [← hdr]; exact HA2.out⟩
      · exact ⟨by show IsWords w2 gS 141 (Sums.of ((Sums.blocks Sums.first bs i).take (bs.drop (64 * i)))).list; rw [Sums.of_list _ (Sums.take_length _ _), ← HRS.out]; exact HI2.out⟩
      · show rs.length - 64 < rs.length; omega
    · have hd : decide ((64 : Int) ≤ (rs.length : Int)) = false := by simp; omega
      have HLT := Aside0.mk hlt
      clear hrl
      have hl64 : rs.length < 64 := by omega
      obtain ⟨W1, hW1⟩ : ∃ W1, W1 = wr.alloc (Obj.cells Tryd.zeroCells143 143) := ⟨_, rfl⟩
      have HTAIL : W1.heap[wr.heap.size]? = some (.cells (List.replicate 128 (Value.int .u8 0)).toArray 143 (0, 0)) := by rw [hW1]; exact heap_alloc_new wr _
      have hBW : Below wr.heap.size wr W1 := by rw [hW1]; exact below_alloc (Below.refl _ _) _
      have hcs := copy_src (Kd.C_below (Kd.C_below HRi.out HB.out) hBW) wr.heap.size
      go_wp2_with (refine wpList_copy_splice rfl (.tmp 21) (.tmp 22) 33 33 rfl 5 Tryd.underlying33 (by kernel_rfl) (some ⟨wr.heap.size, 0, none⟩) A 128 128 rs.length c rfl rfl wr.heap.size 0 (List.replicate 128 (.int .u8 0)) 143 (by rw [← hW1]; exact HTAIL) (rs.map (Value.int .u8)) (by rw [List.length_map]; exact (Nat.min_eq_left (by omega)).symm) (by rw [← hW1]; exact hcs) (by simp; omega) (by simp [Value.oneCell']) wr.heap.size _ (Below.refl _ _) (Nat.le_refl _) ?_; intro w2 HG2 hB2; have hTB := IsBytes.of_splice HG2.out; have hc2 := hTB.cell rs.length (by simp; omega); have hf2 := hTB.frozen rs.length; rw [pad_get rs 128 (by omega)] at hc2)
      refine (blocks_calls bs.length HBB.out _).mono ?_
      rintro e3 w3 ⟨rfl, hB3⟩
      have hT3 : IsBytes w3 wr.heap.size 143 (tail0 rs) := (hTB.set rs.length 128).below hB3 (by have := hTB.lt; simpa using this)
      rw [← hW1] at hB2
      have hB4 : Below wr.heap.size wr w3 := ((hBW.trans hB2).setCell (p := ⟨wr.heap.size, rs.length, none⟩) (Nat.le_refl _) _).trans (hB3.mono (by have := hTB.lt; simpa using Nat.le_of_lt this))
      have HI3 : Aside0 (IsWords w3 gS 141 (Sums.blocks Sums.first bs i).list) := ⟨HI.out.below hB4 HI.out.lt⟩
      have HB3 : Aside0 (Below w.heap.size w w3) := ⟨HB.out.trans (hB4.mono HB.out.size)⟩
      obtain ⟨tg, htg⟩ : ∃ tg, tg = wr.heap.size := ⟨_, rfl⟩
      have hgt : gS < tg := by rw [htg]; exact HI.out.lt
      have hwt : w.heap.size ≤ tg := by rw [htg]; exact HB.out.size
      rw [← htg] at hT3
      rw [← htg]
      have HT3 := Aside0.mk hT3
      obtain ⟨d, hd2⟩ : ∃ d, d = tailBlocks bs.length := ⟨_, rfl⟩
      have hd12 : d = 1 ∨ d = 2 := by rw [hd2]; unfold tailBlocks; split <;> simp
      obtain ⟨m, hm⟩ : ∃ m, m = 64 * d := ⟨_, rfl⟩
      have hmt : m = tailSize bs.length := by rw [hm, hd2]; rfl
      obtain ⟨nb, hnb⟩ : ∃ nb : Int, nb = (nblocks bs.length : Int) := ⟨_, rfl⟩
      have hnq : nb = (bs.length : Int) / 64 + (d : Int) := by rw [hnb, hd2]; unfold nblocks; omega
      rw [← hnb]
      have e1 : nb - (bs.length : Int) / 64 = (d : Int) := by omega
      have e2 : (64 : Int) * (d : Int) = (m : Int) := by omega
      have e3 : IntKind.i64.wrap (d : Int) = (d : Int) := (by rw [IntKind.wrap_i64]; omega)
      have e4 : IntKind.i64.wrap (m : Int) = (m : Int) := (by rw [IntKind.wrap_i64]; omega)
      have e5 : (m : Int) ≤ 128 := by omega
      have e6 : (0 : Int) ≤ (m : Int) := by omega
      have HDT := Aside0.mk hd2
      have HM := Aside0.mk hm
      have HMT := Aside0.mk hmt
      have HD := Aside0.mk hd12
      have HHG := Aside0.mk hgt
      have HHW := Aside0.mk hwt
      clear hT3 htg hB4 hB3 hTB hc2 hf2 hB2 HG2 hBW hcs HTAIL hW1 hm hmt hd12 hnb hnq hd2 hgt hwt hd
      go_wp2_with fail
      obtain ⟨T, hT⟩ : ∃ T, T = tailLen m 8 (bs.length * 8) 1 (tail0 rs) := ⟨_, rfl⟩
      have HTT := Aside0.mk hT
      have ht0 : (tail0 rs).length = 128 := by unfold tail0; rw [List.length_set, List.length_append, List.length_replicate]; omega
      go_loopw [7, 8] (fun v7 v8 wq => ∃ (f x q : Nat) (ys : List Int), v7 = .int .i64 (q : Int) ∧ v8 = .int .u64 (x : Int) ∧ Aside0 (x < 256 ^ f) ∧ Aside0 (q + f = 9 ∧ 1 ≤ q ∧ ys.length = 128) ∧ Aside0 (tailLen m f x q ys = T) ∧ Aside0 (IsBytes wq tg 143 ys) ∧ Aside0 (IsWords wq gS 141 (Sums.blocks Sums.first bs i).list) ∧ Aside0 (Below w.heap.size w wq)) (fun _ v8 _ => (intOf v8).toNat)
      case atStart => exact ⟨8, bs.length * 8, 1, tail0 rs, by go_num, by go_num, ⟨by have := HBB.out; omega⟩, ⟨by omega, by omega, ht0⟩, ⟨HTT.out.symm⟩, HT3, HI3, HB3⟩
      case round =>
        obtain ⟨f, x, q, ys, rfl, rfl, HX, HQ, HTl, HTq, HIq, HBq⟩ := hrel
        clear HT3 HI3 HB3 ht0 hT
        by_cases hx0 : 0 < x
        · have hd : decide ((0 : Int) < (x : Int)) = true := by simp; omega
          obtain ⟨f, rfl⟩ : ∃ f', f = f' + 1 := by
            cases f with
            | zero => have := HX.out; omega
            | succ f => exact ⟨f, rfl⟩
          have hq9 := HQ.out
          obtain ⟨mq, hmq⟩ : ∃ mq, mq = m - q := ⟨_, rfl⟩
          have hmv := HM.out
          have hdv := HD.out
          have g1 : (m : Int) - (q : Int) = (mq : Int) := by omega
          have g2 : IntKind.i64.wrap (mq : Int) = (mq : Int) := (by rw [IntKind.wrap_i64]; omega)
          have g3 : (mq : Int) < (m : Int) := by omega
          have hq7 : (q : Int) < 10 := by omega
          have hcq := HTq.out.cell mq (by omega)
          have hfq := HTq.out.frozen mq
          have HMQ := Aside0.mk hmq
          clear hmq hq9 hmv hdv
          go_wp2_with fail
          have hq9 := HQ.out
          have hxf := HX.out
          have e : (x : Int) % 256 = ((x % 256 : Nat) : Int) := by omega
          refine ⟨⟨f, x / 256, q + 1, ys.set mq ((x % 256 : Nat) : Int), by go_num, by go_num, ⟨by rw [Nat.pow_succ] at hxf; omega⟩, ⟨by omega, by omega, by rw [List.length_set]; omega⟩, ⟨?_⟩, ⟨?_⟩, ⟨?_⟩, ⟨HBq.out.setCell (by show w.heap.size ≤ tg; exact HHW.out) _⟩⟩, ?_⟩
          · rw [← HTl.out, tailLen, if_pos hx0, ← HMQ.out]
          · rw [e]; exact HTq.out.set mq _
          · exact (KeepBut.refl _ tg none |>.set_ _ _).blk HIq.out (by have := HHG.out; omega) (by simp)
          · simp only [intOf]; omega
        · have hd : decide ((0 : Int) < (x : Int)) = false := by simp; omega
          obtain rfl : x = 0 := by omega
          have hTy : ys = T := by rw [← HTl.out]; cases f <;> rfl
          subst hTy
          clear HTl HX
          have HL := Aside0.mk HQ.out.2.2
          clear HQ
          go_wp2_with fail
          have hmd := HM.out
          have hd12 := HD.out
          go_loopw [6] (fun v6 wz => ∃ (k n c : Nat) (A : Option Addr), k ≤ d ∧ v6 = .slice A n c ∧ n + 64 * k = m ∧ n ≤ c ∧ (k < d → A = some ⟨tg, 64 * k, none⟩) ∧ Aside0 (IsBytes wz tg 143 ys) ∧ Aside0 (IsWords wz gS 141 (Sums.blocks (Sums.blocks Sums.first bs i) (ys.take m) k).list) ∧ Aside0 (Below w.heap.size w wz)) (fun v6 _ => match v6 with | .slice _ n _ => n | _ => 0)
          case atStart => exact ⟨0, m, 128, _, by omega, rfl, by omega, by omega, fun _ => rfl, HTq, HIq, HBq⟩
          case round =>
            obtain ⟨k, n, c, A, hk, rfl, hnm, hnc, hA, HTz, HIz, HBz⟩ := hrel
            clear HTq HIq HBq
            by_cases hkd : k < d
            · obtain rfl := hA hkd
              clear hA
              obtain ⟨us, hus⟩ : ∃ us, us = (ys.drop (64 * k)).take n := ⟨_, rfl⟩
              have hyl := HL.out
              have hul : us.length = n := by rw [hus, List.length_take, List.length_drop]; omega
              have hCu := HTz.out.C (o := 64 * k) (n := n) (by omega) (by omega)
              rw [← hus] at hCu
              have HCU := Aside0.mk hCu
              have HUS := Aside0.mk hus
              clear hCu hus
              obtain rfl := hul
              have hd : decide ((0 : Int) < (us.length : Int)) = true := by simp; omega
              have hu64 : (64 : Int) ≤ (us.length : Int) := by omega
              have hu65 : (us.length : Int) ≤ (c : Int) := by omega
              have hgS := HHG.out
              go_wp2_with fail
              refine (take_calls gS _ (some ⟨tg, 64 * k, none⟩) c us w _ HIz.out (by rw [HGg.out]; exact Nat.le_refl _) HCU.out hnc (by omega) (by omega) HBz.out HGS.out).mono ?_
              rintro e2 w2 ⟨rfl, hI2, hB2, hK2⟩
              have HI2 := Aside0.mk hI2
              have HB2 := Aside0.mk hB2
              have HT2 := Aside0.mk (show IsBytes w2 tg 143 ys from hK2.blk HTz.out (by omega) (by simp))
              clear hI2 hB2 hK2 HIz HBz HTz
              go_wp2_with fail
              have hus2 := HUS.out
              refine ⟨⟨k + 1, us.length - 64, c - 64, _, by omega, rfl, by omega, by omega, fun hk1 => ?_, HT2, ⟨?_⟩, HB2⟩, ?_⟩
              · rw [if_neg (by omega), show 64 * (k + 1) = 64 * k + 64 from by omega]
              · show IsWords _ gS 141 (Sums.of ((Sums.blocks (Sums.blocks Sums.first bs i) (ys.take m) k).take ((ys.take m).drop (64 * k)))).list
                rw [Sums.of_list _ (Sums.take_length _ _), List.drop_take, show m - 64 * k = us.length from by omega, ← hus2]
                exact HI2.out
              · show us.length - 64 < us.length
                omega
            · obtain rfl : k = d := by omega
              obtain rfl : n = 0 := by omega
              clear hA
              have hd : decide ((0 : Int) < ((0 : Nat) : Int)) = false := by decide
              clear hd
              have hmk : ∀ W : World, (Instr.makeSlice 33 (.int .i64 32) (.int .i64 32)).run Tryd.prog W = .ok (.slice (some ⟨W.heap.size, 0, none⟩) 32 32) (W.alloc (Obj.cells (((List.replicate 32 (0 : Int)).map (Value.int .u8)).toArray) 5 (0, 0))) := fun _ => by kernel_rfl
              have hd : decide ((0 : Int) < ((0 : Nat) : Int)) = false := by decide
              go_wp2_with fail
              obtain ⟨ss, hss⟩ : ∃ ss, ss = Sums.blocks (Sums.blocks Sums.first bs i) (ys.take m) k := ⟨_, rfl⟩
              have HSS := Aside0.mk hss
              rw [← hss] at HIz
              obtain ⟨og, hog⟩ : ∃ og, og = wr.heap.size := ⟨_, rfl⟩
              have hog2 : og = wr.heap.size := hog
              rw [← hog]
              have HOG : w.heap.size ≤ og := by rw [hog]; exact HBz.out.size
              have hgo : gS < og := by rw [hog]; exact HIz.out.lt
              have HOGG := Aside0.mk HOG
              have HGO := Aside0.mk hgo
              have hAl : Below wr.heap.size wr (wr.alloc (Obj.cells (((List.replicate 32 (0 : Int)).map (Value.int .u8)).toArray) 5 (0, 0))) := below_alloc (Below.refl _ _) _
              clear hss hog hd HOG hgo HTz hmk
              go_loopw [59] (fun v59 wq => ∃ j : Nat, j ≤ 32 ∧ v59 = .int .i64 (j : Int) ∧ Aside0 (IsBytes wq og 5 (outB ss.list j)) ∧ Aside0 (IsWords wq gS 141 ss.list) ∧ Aside0 (Below w.heap.size w wq)) (fun v59 _ => 32 - (intOf v59).toNat)
              case atStart => exact ⟨0, by omega, rfl, ⟨by rw [hog2]; exact heap_alloc_new wr _⟩, ⟨HIz.out.below hAl HIz.out.lt⟩, ⟨HBz.out.trans (hAl.mono HBz.out.size)⟩⟩
              case round =>
                obtain ⟨j, hj, rfl, HOj, HIj, HBj⟩ := hrel
                clear HIz HBz hAl hog2
                by_cases hj32 : j < 32
                · have hd : decide ((j : Int) < 32) = true := by simp; omega
                  obtain ⟨j4, hj4⟩ : ∃ j4, j4 = j / 4 := ⟨_, rfl⟩
                  have g1 : (j : Int) / 4 = (j4 : Int) := by omega
                  have g2 : j4 < 8 := by omega
                  have hcw := HIj.out.cell j4 (by show j4 < 8; omega)
                  have hlo : (outB ss.list j).length = 32 := outB_length _ _
                  have hco := HOj.out.cell j (by omega)
                  have hfo := HOj.out.frozen j
                  have HJ4 := Aside0.mk hj4
                  clear hj4 hlo
                  have hr4 : (j : Int) % 4 = 0 ∨ (j : Int) % 4 = 1 ∨ (j : Int) % 4 = 2 ∨ (j : Int) % 4 = 3 := by omega
                  rcases hr4 with hr4 | hr4 | hr4 | hr4
                  · go_wp2_with fail
                    have hwb : wordByte ss.list j = ss.list[j4]?.getD 0 / 16777216 % 256 := by rw [wordByte_0 _ _ (by omega), ← HJ4.out]
                    refine ⟨⟨j + 1, by omega, by go_num, ⟨?_⟩, ⟨(KeepBut.refl _ og none |>.set_ _ _).blk HIj.out (by have := HGO.out; omega) (by simp)⟩, ⟨HBj.out.setCell (by show w.heap.size ≤ og; exact HOGG.out) _⟩⟩, by simp only [intOf]; omega⟩
                    rw [← hwb]
                    exact HOj.out.set j _
                  · go_wp2_with fail
                    have hwb : wordByte ss.list j = ss.list[j4]?.getD 0 / 65536 % 256 := by rw [wordByte_1 _ _ (by omega), ← HJ4.out]
                    refine ⟨⟨j + 1, by omega, by go_num, ⟨?_⟩, ⟨(KeepBut.refl _ og none |>.set_ _ _).blk HIj.out (by have := HGO.out; omega) (by simp)⟩, ⟨HBj.out.setCell (by show w.heap.size ≤ og; exact HOGG.out) _⟩⟩, by simp only [intOf]; omega⟩
                    rw [← hwb]
                    exact HOj.out.set j _
                  · go_wp2_with fail
                    have hwb : wordByte ss.list j = ss.list[j4]?.getD 0 / 256 % 256 := by rw [wordByte_2 _ _ (by omega), ← HJ4.out]
                    refine ⟨⟨j + 1, by omega, by go_num, ⟨?_⟩, ⟨(KeepBut.refl _ og none |>.set_ _ _).blk HIj.out (by have := HGO.out; omega) (by simp)⟩, ⟨HBj.out.setCell (by show w.heap.size ≤ og; exact HOGG.out) _⟩⟩, by simp only [intOf]; omega⟩
                    rw [← hwb]
                    exact HOj.out.set j _
                  · go_wp2_with fail
                    have hwb : wordByte ss.list j = ss.list[j4]?.getD 0 % 256 := by rw [wordByte_3 _ _ (by omega), ← HJ4.out]
                    refine ⟨⟨j + 1, by omega, by go_num, ⟨?_⟩, ⟨(KeepBut.refl _ og none |>.set_ _ _).blk HIj.out (by have := HGO.out; omega) (by simp)⟩, ⟨HBj.out.setCell (by show w.heap.size ≤ og; exact HOGG.out) _⟩⟩, by simp only [intOf]; omega⟩
                    rw [← hwb]
                    exact HOj.out.set j _
                · obtain rfl : j = 32 := by omega
                  have hd : decide (((32 : Nat) : Int) < 32) = false := by decide
                  go_wp2_with fail
                  go_ret
                  have hrl := HRL.out
                  have hi64 : i = bs.length / 64 := by omega
                  have hfin : outB ss.list 32 = shaSum bs := by
                    unfold shaSum
                    rw [HSS.out, HDT.out, HMT.out, hi64]
                    unfold tailOf
                    rw [← hi64, ← HRS.out, ← HMT.out, ← HTT.out]
                  rw [← hfin]
                  exact ⟨_, rfl, HOj.out.R HOGG.out (outB_length _ _) (by decide), HBj.out⟩
end Go.Proofs.YteamljekjncbfaaDoor.P
end
section
set_option linter.unusedVariables false
set_option linter.unusedSimpArgs false
namespace Go.Proofs.YteamljekjncbfaaDoor.P
open Go.RowKit Go.Proofs.YteamljekjncbfaaDoorW.PrintWords Go.Proofs.YteamljekjncbfaaDoorW.PrintLast Go.Proofs.YteamljekjncbfaaDoorW.PrintMore
theorem shaSum_length (bs : List Int) : (shaSum bs).length = 32 := outB_length _ _
def sha_Sum.f (l0 : List Int) : Option (List Int) := if l0.length ≤ 140737488355328 then some (shaSum l0) else none
def sha_Cut.f (a0 : Int) (l1 : List Int) : Option (List Int) := if l1.length ≤ 140737488355328 then some ((shaSum l1).take (mn (mx a0 0) 32).toNat) else none
attribute [local go_sem] max2_int min2_int max_two min_two
set_option maxHeartbeats 1000000 in
set_option maxRecDepth 100000 in
theorem sha_Cut.calls (a0 : Int) (A1 : Option Addr) (c1 : Nat) (l1 : List Int) (r : List Int) (w : World) (hr1 : Kd.C (Kd.int .u8) w A1 l1.length l1) (hc1 : l1.length ≤ c1) (hGS : GlobS w) (h : sha_Cut.f a0 l1 = some r) :
    Calls Tryd.prog 90 #[.int .i64 a0, .slice A1 l1.length c1] w fun e w' => ∃ v0_ : Value, e = .returned (v0_) ∧ Kd.V (Kd.int .u8) 5 w' w.heap.size (fun k_ => w.heap.size ≤ k_) v0_ r ∧ Below w.heap.size w w' := by
  unfold sha_Cut.f at h
  split at h
  case isFalse => cases h
  case isTrue hb =>
    obtain rfl := Option.some.inj h
    obtain ⟨j, hj⟩ : ∃ j, j = mx a0 0 := ⟨_, rfl⟩
    obtain ⟨n, hn⟩ : ∃ n, n = mn j 32 := ⟨_, rfl⟩
    have e1 : (if a0 < 0 then 0 else a0) = j := hj.symm
    have e2 : (if 32 < j then 32 else j) = n := hn.symm
    have hn0 : 0 ≤ n := by rw [← e2, ← e1]; split <;> split <;> omega
    have hn32 : n ≤ 32 := by rw [← e2]; split <;> omega
    obtain ⟨m, rfl⟩ : ∃ m : Nat, n = (m : Int) := ⟨n.toNat, by omega⟩
    rw [← hj, ← hn, Int.toNat_natCast]
    have HR := Aside0.mk hr1
    have HC := Aside0.mk hc1
    have HGS := Aside0.mk hGS
    clear h hr1 hc1 hGS hj hn
    go_enter Tryd.func90, Tryd.ntmps90
    go_wp2_with fail
    refine (sum_any A1 c1 l1 w HR.out HC.out hb HGS.out).mono ?_
    rintro e w1 ⟨v, rfl, hR1, hB1⟩
    obtain ⟨A, c, rfl⟩ := Kd.R_slice hR1
    have hlc := (Kd.R_reads' hR1).2.1
    have HR1 := Aside0.mk hR1
    have HB1 := Aside0.mk hB1
    clear hR1 hB1
    have hl32 : (shaSum l1).length = 32 := shaSum_length l1
    have hmc : (m : Int) ≤ (c : Int) := by omega
    have hm32 : m ≤ 32 := by omega
    go_wp2_with fail
    go_ret
    have hR2 : Kd.R (Kd.int .u8) 5 w1 w.heap.size (fun k_ => w.heap.size ≤ k_) (.slice A m c) ((shaSum l1).take m) := Kd.R_mono (Kd.R_bound (Kd.R_take HR1.out (by omega))) (fun k hk => hk.2.1)
    have hlm : ((shaSum l1).take m).length = m := by rw [List.length_take]; omega
    have hV := (Kd.V_at (Kd.R_V (base' := w.heap.size) hR2)).2.2
    have hV2 := Kd.V_mk (base := w.heap.size) (e := 5) (Nat.le_refl _) hV
    rw [hlm] at hV2
    exact ⟨_, rfl, hV2, HB1.out⟩
end Go.Proofs.YteamljekjncbfaaDoor.P
end
