/- Lemmas of this claim, part 1. -/
import Derived.Test.YtbedgjjiinhpkaaDoorLawArenaHashesM0
import Derived.Laws.CopyOwn
import Derived.Outline
-- ShaC
set_option linter.unusedVariables false
set_option linter.unusedSimpArgs false
namespace Go.Proofs.YtbedgjjiinhpkaaDoor.P
open Go.RowKit Go.Proofs.YtbedgjjiinhpkaaDoorW.PrintWords Go.Proofs.YtbedgjjiinhpkaaDoorW.PrintLast Go.Proofs.YtbedgjjiinhpkaaDoorW.PrintMore

def Sums.of (l : List Int) : Sums := ⟨l.getD 0 0, l.getD 1 0, l.getD 2 0, l.getD 3 0, l.getD 4 0, l.getD 5 0, l.getD 6 0, l.getD 7 0⟩
theorem Sums.of_list (l : List Int) (h : l.length = 8) : (Sums.of l).list = l := by
  match l, h with
  | [a, b, c, d, e, f, g, h], _ => rfl
theorem Sums.take_length (s : Sums) (bs : List Int) : (s.take bs).length = 8 := by
  unfold Sums.take
  rw [addW_length]
  rfl

/-- So many blocks taken. -/
def Sums.blocks (s : Sums) (bs : List Int) : Nat → Sums
  | 0 => s
  | i + 1 => Sums.of ((Sums.blocks s bs i).take (bs.drop (64 * i)))

def Sums.first : Sums := Sums.of shaFirst

/-- How many blocks its tail makes. -/
def tailBlocks (n : Nat) : Nat := if n % 64 + 9 > 64 then 2 else 1
/-- How many blocks a text of n bytes makes. -/
def nblocks (n : Nat) : Nat := n / 64 + tailBlocks n
attribute [local go_sem] max2_int min2_int max_two min_two in
set_option maxHeartbeats 4000000 in
set_option maxRecDepth 100000 in
theorem blocks_calls (n : Nat) (hn : n ≤ 140737488355328) (w : World) :
    Calls Tryd.prog 200 #[.int .i64 (n : Int)] w fun e w' => e = .returned (.int .i64 (nblocks n : Int)) ∧ Below w.heap.size w w' := by
  have HB := Aside0.mk (Below.refl w.heap.size w)
  obtain ⟨j, hj⟩ : ∃ j : Int, j = (n : Int) := ⟨_, rfl⟩
  have hj0 : ¬ j < 0 := by omega
  have hmx : (if j < 0 then 0 else j) = j := if_neg hj0
  have hjm : j ≤ 140737488355328 := by omega
  have hj1 : 0 ≤ j := by omega
  rw [← hj]
  have hw0 : wrap64 (j / 64) = j / 64 := by unfold wrap64; omega
  have hw1 : wrap64 (j / 64 + 1) = j / 64 + 1 := by unfold wrap64; omega
  have hw2 : wrap64 (j / 64 + 1 + 1) = j / 64 + 1 + 1 := by unfold wrap64; omega
  by_cases c4 : j % 64 + 1 + 8 > 64
  · have c4b0 : decide (64 < j % 64 + 1 + 8) = true := decide_eq_true c4
    have hr : j / 64 + 1 + 1 = (nblocks n : Int) := by unfold nblocks tailBlocks; rw [if_pos (by omega)]; omega
    have HR := Aside0.mk hr
    clear hr c4 hj
    go_enter Tryd.func200, Tryd.ntmps200
    go_wp2
    go_ret
    exact ⟨by rw [← HR.out]; rfl, by repeat (first | (with_reducible first | exact HB.out | apply below_alloc | apply pw_below_drewN | apply below_drew1) | exact HB.out)⟩
  · have c4b0 : decide (64 < j % 64 + 1 + 8) = false := decide_eq_false c4
    have hr : j / 64 + 1 = (nblocks n : Int) := by unfold nblocks tailBlocks; rw [if_neg (by omega)]; omega
    have HR := Aside0.mk hr
    clear hr c4 hj
    go_enter Tryd.func200, Tryd.ntmps200
    go_wp2
    go_ret
    exact ⟨by rw [← HR.out]; rfl, by repeat (first | (with_reducible first | exact HB.out | apply below_alloc | apply pw_below_drewN | apply below_drew1) | exact HB.out)⟩

/-- A block of bytes. -/
def IsBytes (w : World) (g t : Nat) (xs : List Int) : Prop := w.heap[g]? = some (.cells (xs.map (Value.int .u8)).toArray t (0, 0))

theorem IsBytes.cell {w : World} {g t : Nat} {xs : List Int} (h : IsBytes w g t xs) (i : Nat) (hi : i < xs.length) : w.cell? ⟨g, i, none⟩ = some (.int .u8 (xs.getD i 0)) := by
  refine (blk_cell h i).trans ?_
  rw [List.getElem?_toArray, List.getElem?_map, List.getElem?_eq_getElem hi, List.getD_eq_getElem?_getD, List.getElem?_eq_getElem hi]
  rfl
theorem IsBytes.frozen {w : World} {g t : Nat} {xs : List Int} (h : IsBytes w g t xs) (i : Nat) : w.frozen? ⟨g, i, none⟩ = false := blk_frozen h i
theorem IsBytes.set {w : World} {g t : Nat} {xs : List Int} (h : IsBytes w g t xs) (i : Nat) (x : Int) : IsBytes (w.setCell ⟨g, i, none⟩ (.int .u8 x)) g t (xs.set i x) := by
  unfold IsBytes
  have e : ((xs.set i x).map (Value.int .u8)).toArray = ((xs.map (Value.int .u8)).toArray).setIfInBounds i (.int .u8 x) := by rw [List.map_set]; simp
  rw [e]
  exact blk_set h i _
theorem IsBytes.C {w : World} {g t o n : Nat} {xs : List Int} (h : IsBytes w g t xs) (hn : o + n ≤ xs.length) (hm : n ≤ 9223372036854775807) : Kd.C (Kd.int .u8) w (some ⟨g, o, none⟩) n ((xs.drop o).take n) := by
  refine Kd.C_of_reads (h1 := fun _ => rfl) (d := 0) ⟨by rw [List.length_take, List.length_drop]; omega, hm, fun _ => ⟨_, rfl, fun j hj => ?_⟩⟩
  have := h.cell (o + j) (by omega)
  rw [show (Addr.add ⟨g, o, none⟩ j) = ⟨g, o + j, none⟩ from by simp [Addr.add]]
  rw [this]
  simp [List.getElem?_take, hj]
theorem IsBytes.R {w : World} {g e n base : Nat} {xs : List Int} (h : IsBytes w g e xs) (hb : base ≤ g) (hn : xs.length = n) (hm : n ≤ maxLen) : Kd.R (Kd.int .u8) e w base (fun _ => True) (.slice (some ⟨g, 0, none⟩) n n) xs := by
  subst hn
  refine Kd.R_of_own ⟨by simp [encs_length], .inr ⟨g, xs.length, _, rfl, hb, h, Nat.le_refl _, hm, by simp, by simp [encs, List.take_of_length_le]⟩⟩ (fun _ _ => trivial)
theorem IsBytes.lt {w : World} {g t : Nat} {xs : List Int} (h : IsBytes w g t xs) : g < w.heap.size := by
  unfold IsBytes at h
  obtain ⟨hl, -⟩ := Array.getElem?_eq_some_iff.1 h
  exact hl
theorem IsBytes.below {w w1 : World} {g t B : Nat} {xs : List Int} (h : IsBytes w g t xs) (hb : Below B w w1) (hg : g < B) : IsBytes w1 g t xs := (hb.block g hg).trans h
theorem IsWords.lt {w : World} {g t : Nat} {xs : List Int} (h : IsWords w g t xs) : g < w.heap.size := by
  unfold IsWords at h
  obtain ⟨hl, -⟩ := Array.getElem?_eq_some_iff.1 h
  exact hl
theorem IsWords.below {w w1 : World} {g t B : Nat} {xs : List Int} (h : IsWords w g t xs) (hb : Below B w w1) (hg : g < B) : IsWords w1 g t xs := (hb.block g hg).trans h

/-- The source of a copy. -/
theorem copy_src {w : World} {A : Option Addr} {n : Nat} {xs : List Int} (h : Kd.C (Kd.int .u8) w A n xs) (g : Nat) :
    0 < (xs.map (Value.int .u8)).length → some (⟨g, 0, none⟩ : Addr) = some ⟨g, 0, none⟩ ∧ ∃ ad, A = some ad ∧ ∀ j v, (xs.map (Value.int .u8))[j]? = some v → w.cell? (ad.add j) = some v := by
  intro hp
  have hr := Kd.reads_of_C (d := 0) h
  rw [List.length_map] at hp
  obtain ⟨ad, e, hc⟩ := hr.2.2 (by have := hr.1; omega)
  refine ⟨rfl, ad, e, fun j v hj => ?_⟩
  rw [List.getElem?_map] at hj
  obtain ⟨x, hx, rfl⟩ := Option.map_eq_some_iff.1 hj
  obtain ⟨hl, -⟩ := List.getElem?_eq_some_iff.1 hx
  rw [hc j (by have := hr.1; omega)]
  simp [hx]
theorem IsBytes.of_splice {w : World} {g t n : Nat} {xs : List Int} (h : w.heap[g]? = some (.cells (splice (List.replicate n (Value.int .u8 0)) 0 (xs.map (Value.int .u8))).toArray t (0, 0))) : IsBytes w g t (xs ++ List.replicate (n - xs.length) 0) := by
  unfold IsBytes
  rw [h]
  simp [splice]
theorem pad_get (xs : List Int) (n : Nat) (h : xs.length < n) : (xs ++ List.replicate (n - xs.length) (0 : Int)).getD xs.length 0 = 0 := by
  rw [List.getD_eq_getElem?_getD, List.getElem?_append_right (Nat.le_refl _), Nat.sub_self, List.getElem?_replicate, if_pos (by omega)]
  rfl
/-- The tail: what is left of a text, its mark, zeros. -/
def tail0 (rest : List Int) : List Int := (rest ++ List.replicate (128 - rest.length) 0).set rest.length 128
/-- Its length in bits, from byte m back. -/
def tailLen (m : Nat) : Nat → Nat → Nat → List Int → List Int
  | 0, _, _, ys => ys
  | k + 1, x, i, ys => if 0 < x then tailLen m k (x / 256) (i + 1) (ys.set (m - i) ((x % 256 : Nat) : Int)) else ys

/-- How many bytes of the tail count. -/
def tailSize (n : Nat) : Nat := 64 * tailBlocks n
def tailOf (bs : List Int) : List Int := tailLen (tailSize bs.length) 8 (bs.length * 8) 1 (tail0 (bs.drop (64 * (bs.length / 64))))

/-- A byte of the words. -/
def wordByte (ws : List Int) (i : Nat) : Int := ws.getD (i / 4) 0 / 2 ^ (8 * (3 - i % 4)) % 256
theorem wordByte_0 (ws : List Int) (i : Nat) (h : i % 4 = 0) : wordByte ws i = ws[i / 4]?.getD 0 / 16777216 % 256 := by unfold wordByte; rw [h, List.getD_eq_getElem?_getD]; rfl
theorem wordByte_1 (ws : List Int) (i : Nat) (h : i % 4 = 1) : wordByte ws i = ws[i / 4]?.getD 0 / 65536 % 256 := by unfold wordByte; rw [h, List.getD_eq_getElem?_getD]; rfl
theorem wordByte_2 (ws : List Int) (i : Nat) (h : i % 4 = 2) : wordByte ws i = ws[i / 4]?.getD 0 / 256 % 256 := by unfold wordByte; rw [h, List.getD_eq_getElem?_getD]; rfl
theorem wordByte_3 (ws : List Int) (i : Nat) (h : i % 4 = 3) : wordByte ws i = ws[i / 4]?.getD 0 % 256 := by unfold wordByte; rw [h, List.getD_eq_getElem?_getD, show (2 : Int) ^ (8 * (3 - 3)) = 1 from rfl, Int.ediv_one]
/-- The first bytes of the words, in a row of 32. -/
def outB (ws : List Int) : Nat → List Int
  | 0 => List.replicate 32 0
  | i + 1 => (outB ws i).set i (wordByte ws i)
theorem outB_length (ws : List Int) (k : Nat) : (outB ws k).length = 32 := by
  induction k with
  | zero => rfl
  | succ k ih => simp [outB, ih]

/-- The sum. -/
def shaSum (bs : List Int) : List Int :=
  outB (Sums.blocks (Sums.blocks Sums.first bs (bs.length / 64)) ((tailOf bs).take (tailSize bs.length)) (tailBlocks bs.length)).list 32

set_option maxHeartbeats 4000000 in
set_option maxRecDepth 100000 in
theorem sum_any (A0 : Option Addr) (cap : Nat) (bs : List Int) (w : World) (hr : Kd.C (Kd.int .u8) w A0 bs.length bs) (hc : bs.length ≤ cap) (hb : bs.length ≤ 140737488355328) (hGS : GlobS w) :
    Calls Tryd.prog 186 #[.slice A0 bs.length cap] w fun e w' => ∃ v0_, e = .returned v0_ ∧ Kd.R (Kd.int .u8) 5 w' w.heap.size (fun _ => True) v0_ (shaSum bs) ∧ Below w.heap.size w w' := by
  obtain ⟨k0, k1, k2, k3, k4, k5, k6, k7⟩ : w.cell? ⟨2, 0, none⟩ = some (.int .u32 1779033703) ∧ w.cell? ⟨2, 1, none⟩ = some (.int .u32 3144134277) ∧ w.cell? ⟨2, 2, none⟩ = some (.int .u32 1013904242) ∧ w.cell? ⟨2, 3, none⟩ = some (.int .u32 2773480762) ∧ w.cell? ⟨2, 4, none⟩ = some (.int .u32 1359893119) ∧ w.cell? ⟨2, 5, none⟩ = some (.int .u32 2600822924) ∧ w.cell? ⟨2, 6, none⟩ = some (.int .u32 528734635) ∧ w.cell? ⟨2, 7, none⟩ = some (.int .u32 1541459225) :=
    ⟨hGS.1 0 (by omega), hGS.1 1 (by omega), hGS.1 2 (by omega), hGS.1 3 (by omega), hGS.1 4 (by omega), hGS.1 5 (by omega), hGS.1 6 (by omega), hGS.1 7 (by omega)⟩
  have HR := Aside0.mk hr
  have HC := Aside0.mk hc
  have HGS := Aside0.mk hGS
  have HBB := Aside0.mk hb
  clear hr hc hGS
  go_enter Tryd.func186, Tryd.ntmps186
  go_wp2_with fail
  clear k0 k1 k2 k3 k4 k5 k6 k7
  obtain ⟨gS, hgS⟩ : ∃ g, g = w.heap.size := ⟨_, rfl⟩
  rw [← hgS]
  have HGg := Aside0.mk hgS
  clear hgS
  go_loopw [0] (fun v0 wr => ∃ (i : Nat) (A : Option Addr) (c : Nat), 64 * i ≤ bs.length ∧ v0 = .slice A (bs.drop (64 * i)).length c ∧ Aside0 ((bs.drop (64 * i)).length ≤ c) ∧ Aside0 (Kd.C (Kd.int .u8) w A (bs.drop (64 * i)).length (bs.drop (64 * i))) ∧ Aside0 (IsWords wr gS 246 (Sums.blocks Sums.first bs i).list) ∧ Aside0 (Below w.heap.size w wr)) (fun v0 _ => match v0 with | .slice _ n _ => n | _ => 0)
  case atStart => exact ⟨0, A0, cap, by omega, rfl, HC, HR, ⟨by rw [HGg.out]; exact heap_alloc_new w _⟩, ⟨below_alloc (Below.refl _ _) _⟩⟩
  case round =>
    obtain ⟨i, A, c, hi, rfl, HCi, HRi, HI, HB⟩ := hrel
    obtain ⟨rs, hrs⟩ : ∃ rs, rs = bs.drop (64 * i) := ⟨_, rfl⟩
    have hrl : rs.length = bs.length - 64 * i := by rw [hrs, List.length_drop]
    rw [← hrs] at HCi HRi
    rw [← hrs]
    have HRS := Aside0.mk hrs
    have HRL := Aside0.mk hrl
    clear hrs
    by_cases hlt : 64 ≤ rs.length
    · have hd : decide ((64 : Int) ≤ (rs.length : Int)) = true := by simp; omega
      have HLT := Aside0.mk hlt
      have hle : rs.length < 9223372036854775807 := by omega
      clear hrl
      obtain ⟨i0, hi0, _, hsz0, _⟩ := info_parts info5
      obtain ⟨A2, hcut, hA2, hC2⟩ := print_drop_of (P := Tryd.prog) (Value.int .u8) 0 33 5 .i64 Tryd.underlying33 hi0 hsz0 A c rs 64 (by omega) (by omega) HCi.out
      have HA2 := Aside0.mk (Kd.C_of_reads (h1 := fun _ => rfl) (hA2 _ (Kd.reads_of_C HRi.out)))
      have HC2 := Aside0.mk hC2
      clear hA2 hC2 hi0 hsz0
      go_wp2_with fail
      refine (take_calls gS _ A c rs w _ HI.out (by rw [HGg.out]; exact Nat.le_refl _) (Kd.C_below HRi.out HB.out) HCi.out hlt hle HB.out HGS.out).mono ?_
      rintro e2 w2 ⟨rfl, hI2, hB2, hK2⟩
      have HI2 := Aside0.mk hI2
      have HB2 := Aside0.mk hB2
      clear hI2 hB2 hK2 HI HB
      go_wp2_with fail
      have hdr : rs.drop 64 = bs.drop (64 * (i + 1)) := by rw [HRS.out, List.drop_drop]; congr 1
      have hln : (bs.drop (64 * (i + 1))).length = rs.length - 64 := by rw [← hdr, List.length_drop]
      have hrl := HRL.out
      refine ⟨⟨i + 1, A2, c - 64, by omega, by rw [hln], ?_, ?_, ?_, HB2⟩, ?_⟩
      · exact ⟨by rw [← hdr]; exact HC2.out⟩
      · exact ⟨by rw [← hdr]; exact HA2.out⟩
      · exact ⟨by show IsWords w2 gS 246 (Sums.of ((Sums.blocks Sums.first bs i).take (bs.drop (64 * i)))).list; rw [Sums.of_list _ (Sums.take_length _ _), ← HRS.out]; exact HI2.out⟩
      · show rs.length - 64 < rs.length; omega
    · have hd : decide ((64 : Int) ≤ (rs.length : Int)) = false := by simp; omega
      have HLT := Aside0.mk hlt
      clear hrl
      have hl64 : rs.length < 64 := by omega
      obtain ⟨W1, hW1⟩ : ∃ W1, W1 = wr.alloc (Obj.cells Tryd.zeroCells247 247) := ⟨_, rfl⟩
      have HTAIL : W1.heap[wr.heap.size]? = some (.cells (List.replicate 128 (Value.int .u8 0)).toArray 247 (0, 0)) := by rw [hW1]; exact heap_alloc_new wr _
      have hBW : Below wr.heap.size wr W1 := by rw [hW1]; exact below_alloc (Below.refl _ _) _
      have hcs := copy_src (Kd.C_below (Kd.C_below HRi.out HB.out) hBW) wr.heap.size
      go_wp2_with (refine wpList_copy_splice rfl (.tmp 21) (.tmp 22) 33 33 rfl 5 Tryd.underlying33 (by kernel_rfl) (some ⟨wr.heap.size, 0, none⟩) A 128 128 rs.length c rfl rfl wr.heap.size 0 (List.replicate 128 (.int .u8 0)) 247 (by rw [← hW1]; exact HTAIL) (rs.map (Value.int .u8)) (by rw [List.length_map]; exact (Nat.min_eq_left (by omega)).symm) (by rw [← hW1]; exact hcs) (by simp; omega) (by simp [Value.oneCell']) wr.heap.size _ (Below.refl _ _) (Nat.le_refl _) ?_; intro w2 HG2 hB2; have hTB := IsBytes.of_splice HG2.out; have hc2 := hTB.cell rs.length (by simp; omega); have hf2 := hTB.frozen rs.length; rw [pad_get rs 128 (by omega)] at hc2)
      refine (blocks_calls bs.length HBB.out _).mono ?_
      rintro e3 w3 ⟨rfl, hB3⟩
      have hT3 : IsBytes w3 wr.heap.size 247 (tail0 rs) := (hTB.set rs.length 128).below hB3 (by have := hTB.lt; simpa using this)
      rw [← hW1] at hB2
      have hB4 : Below wr.heap.size wr w3 := ((hBW.trans hB2).setCell (p := ⟨wr.heap.size, rs.length, none⟩) (Nat.le_refl _) _).trans (hB3.mono (by have := hTB.lt; simpa using Nat.le_of_lt this))
      have HI3 : Aside0 (IsWords w3 gS 246 (Sums.blocks Sums.first bs i).list) := ⟨HI.out.below hB4 HI.out.lt⟩
      have HB3 : Aside0 (Below w.heap.size w w3) := ⟨HB.out.trans (hB4.mono HB.out.size)⟩
      obtain ⟨tg, htg⟩ : ∃ tg, tg = wr.heap.size := ⟨_, rfl⟩
      have hgt : gS < tg := by rw [htg]; exact HI.out.lt
      have hwt : w.heap.size ≤ tg := by rw [htg]; exact HB.out.size
      rw [← htg] at hT3
      rw [← htg]
      have HT3 := Aside0.mk hT3
      obtain ⟨d, hd2⟩ : ∃ d, d = tailBlocks bs.length := ⟨_, rfl⟩
      have hd12 : d = 1 ∨ d = 2 := by rw [hd2]; unfold tailBlocks; split <;> simp
      obtain ⟨m, hm⟩ : ∃ m, m = 64 * d := ⟨_, rfl⟩
      have hmt : m = tailSize bs.length := by rw [hm, hd2]; rfl
      obtain ⟨nb, hnb⟩ : ∃ nb : Int, nb = (nblocks bs.length : Int) := ⟨_, rfl⟩
      have hnq : nb = (bs.length : Int) / 64 + (d : Int) := by rw [hnb, hd2]; unfold nblocks; omega
      rw [← hnb]
      have e1 : nb - (bs.length : Int) / 64 = (d : Int) := by omega
      have e2 : (64 : Int) * (d : Int) = (m : Int) := by omega
      have e3 : IntKind.i64.wrap (d : Int) = (d : Int) := (by rw [IntKind.wrap_i64]; omega)
      have e4 : IntKind.i64.wrap (m : Int) = (m : Int) := (by rw [IntKind.wrap_i64]; omega)
      have e5 : (m : Int) ≤ 128 := by omega
      have e6 : (0 : Int) ≤ (m : Int) := by omega
      have HDT := Aside0.mk hd2
      have HM := Aside0.mk hm
      have HMT := Aside0.mk hmt
      have HD := Aside0.mk hd12
      have HHG := Aside0.mk hgt
      have HHW := Aside0.mk hwt
      clear hT3 htg hB4 hB3 hTB hc2 hf2 hB2 HG2 hBW hcs HTAIL hW1 hm hmt hd12 hnb hnq hd2 hgt hwt hd
      go_wp2_with fail
      obtain ⟨T, hT⟩ : ∃ T, T = tailLen m 8 (bs.length * 8) 1 (tail0 rs) := ⟨_, rfl⟩
      have HTT := Aside0.mk hT
      have ht0 : (tail0 rs).length = 128 := by unfold tail0; rw [List.length_set, List.length_append, List.length_replicate]; omega
      go_loopw [7, 8] (fun v7 v8 wq => ∃ (f x q : Nat) (ys : List Int), v7 = .int .i64 (q : Int) ∧ v8 = .int .u64 (x : Int) ∧ Aside0 (x < 256 ^ f) ∧ Aside0 (q + f = 9 ∧ 1 ≤ q ∧ ys.length = 128) ∧ Aside0 (tailLen m f x q ys = T) ∧ Aside0 (IsBytes wq tg 247 ys) ∧ Aside0 (IsWords wq gS 246 (Sums.blocks Sums.first bs i).list) ∧ Aside0 (Below w.heap.size w wq)) (fun _ v8 _ => (intOf v8).toNat)
      case atStart => exact ⟨8, bs.length * 8, 1, tail0 rs, by go_num, by go_num, ⟨by have := HBB.out; omega⟩, ⟨by omega, by omega, ht0⟩, ⟨HTT.out.symm⟩, HT3, HI3, HB3⟩
      case round =>
        obtain ⟨f, x, q, ys, rfl, rfl, HX, HQ, HTl, HTq, HIq, HBq⟩ := hrel
        clear HT3 HI3 HB3 ht0 hT
        by_cases hx0 : 0 < x
        · have hd : decide ((0 : Int) < (x : Int)) = true := by simp; omega
          obtain ⟨f, rfl⟩ : ∃ f', f = f' + 1 := by
            cases f with
            | zero => have := HX.out; omega
            | succ f => exact ⟨f, rfl⟩
          have hq9 := HQ.out
          obtain ⟨mq, hmq⟩ : ∃ mq, mq = m - q := ⟨_, rfl⟩
          have hmv := HM.out
          have hdv := HD.out
          have g1 : (m : Int) - (q : Int) = (mq : Int) := by omega
          have g2 : IntKind.i64.wrap (mq : Int) = (mq : Int) := (by rw [IntKind.wrap_i64]; omega)
          have g3 : (mq : Int) < (m : Int) := by omega
          have hq7 : (q : Int) < 10 := by omega
          have hcq := HTq.out.cell mq (by omega)
          have hfq := HTq.out.frozen mq
          have HMQ := Aside0.mk hmq
          clear hmq hq9 hmv hdv
          go_wp2_with fail
          have hq9 := HQ.out
          have hxf := HX.out
          have e : (x : Int) % 256 = ((x % 256 : Nat) : Int) := by omega
          refine ⟨⟨f, x / 256, q + 1, ys.set mq ((x % 256 : Nat) : Int), by go_num, by go_num, ⟨by rw [Nat.pow_succ] at hxf; omega⟩, ⟨by omega, by omega, by rw [List.length_set]; omega⟩, ⟨?_⟩, ⟨?_⟩, ⟨?_⟩, ⟨HBq.out.setCell (by show w.heap.size ≤ tg; exact HHW.out) _⟩⟩, ?_⟩
          · rw [← HTl.out, tailLen, if_pos hx0, ← HMQ.out]
          · rw [e]; exact HTq.out.set mq _
          · exact (KeepBut.refl _ tg none |>.set_ _ _).blk HIq.out (by have := HHG.out; omega) (by simp)
          · simp only [intOf]; omega
        · have hd : decide ((0 : Int) < (x : Int)) = false := by simp; omega
          obtain rfl : x = 0 := by omega
          have hTy : ys = T := by rw [← HTl.out]; cases f <;> rfl
          subst hTy
          clear HTl HX
          have HL := Aside0.mk HQ.out.2.2
          clear HQ
          go_wp2_with fail
          have hmd := HM.out
          have hd12 := HD.out
          go_loopw [6] (fun v6 wz => ∃ (k n c : Nat) (A : Option Addr), k ≤ d ∧ v6 = .slice A n c ∧ n + 64 * k = m ∧ n ≤ c ∧ (k < d → A = some ⟨tg, 64 * k, none⟩) ∧ Aside0 (IsBytes wz tg 247 ys) ∧ Aside0 (IsWords wz gS 246 (Sums.blocks (Sums.blocks Sums.first bs i) (ys.take m) k).list) ∧ Aside0 (Below w.heap.size w wz)) (fun v6 _ => match v6 with | .slice _ n _ => n | _ => 0)
          case atStart => exact ⟨0, m, 128, _, by omega, rfl, by omega, by omega, fun _ => rfl, HTq, HIq, HBq⟩
          case round =>
            obtain ⟨k, n, c, A, hk, rfl, hnm, hnc, hA, HTz, HIz, HBz⟩ := hrel
            clear HTq HIq HBq
            by_cases hkd : k < d
            · obtain rfl := hA hkd
              clear hA
              obtain ⟨us, hus⟩ : ∃ us, us = (ys.drop (64 * k)).take n := ⟨_, rfl⟩
              have hyl := HL.out
              have hul : us.length = n := by rw [hus, List.length_take, List.length_drop]; omega
              have hCu := HTz.out.C (o := 64 * k) (n := n) (by omega) (by omega)
              rw [← hus] at hCu
              have HCU := Aside0.mk hCu
              have HUS := Aside0.mk hus
              clear hCu hus
              obtain rfl := hul
              have hd : decide ((0 : Int) < (us.length : Int)) = true := by simp; omega
              have hu64 : (64 : Int) ≤ (us.length : Int) := by omega
              have hu65 : (us.length : Int) ≤ (c : Int) := by omega
              have hgS := HHG.out
              go_wp2_with fail
              refine (take_calls gS _ (some ⟨tg, 64 * k, none⟩) c us w _ HIz.out (by rw [HGg.out]; exact Nat.le_refl _) HCU.out hnc (by omega) (by omega) HBz.out HGS.out).mono ?_
              rintro e2 w2 ⟨rfl, hI2, hB2, hK2⟩
              have HI2 := Aside0.mk hI2
              have HB2 := Aside0.mk hB2
              have HT2 := Aside0.mk (show IsBytes w2 tg 247 ys from hK2.blk HTz.out (by omega) (by simp))
              clear hI2 hB2 hK2 HIz HBz HTz
              go_wp2_with fail
              have hus2 := HUS.out
              refine ⟨⟨k + 1, us.length - 64, c - 64, _, by omega, rfl, by omega, by omega, fun hk1 => ?_, HT2, ⟨?_⟩, HB2⟩, ?_⟩
              · rw [if_neg (by omega), show 64 * (k + 1) = 64 * k + 64 from by omega]
              · show IsWords _ gS 246 (Sums.of ((Sums.blocks (Sums.blocks Sums.first bs i) (ys.take m) k).take ((ys.take m).drop (64 * k)))).list
                rw [Sums.of_list _ (Sums.take_length _ _), List.drop_take, show m - 64 * k = us.length from by omega, ← hus2]
                exact HI2.out
              · show us.length - 64 < us.length
                omega
            · obtain rfl : k = d := by omega
              obtain rfl : n = 0 := by omega
              clear hA
              have hd : decide ((0 : Int) < ((0 : Nat) : Int)) = false := by decide
              clear hd
              have hmk : ∀ W : World, (Instr.makeSlice 33 (.int .i64 32) (.int .i64 32)).run Tryd.prog W = .ok (.slice (some ⟨W.heap.size, 0, none⟩) 32 32) (W.alloc (Obj.cells (((List.replicate 32 (0 : Int)).map (Value.int .u8)).toArray) 5 (0, 0))) := fun _ => by kernel_rfl
              have hd : decide ((0 : Int) < ((0 : Nat) : Int)) = false := by decide
              go_wp2_with fail
              obtain ⟨ss, hss⟩ : ∃ ss, ss = Sums.blocks (Sums.blocks Sums.first bs i) (ys.take m) k := ⟨_, rfl⟩
              have HSS := Aside0.mk hss
              rw [← hss] at HIz
              obtain ⟨og, hog⟩ : ∃ og, og = wr.heap.size := ⟨_, rfl⟩
              have hog2 : og = wr.heap.size := hog
              rw [← hog]
              have HOG : w.heap.size ≤ og := by rw [hog]; exact HBz.out.size
              have hgo : gS < og := by rw [hog]; exact HIz.out.lt
              have HOGG := Aside0.mk HOG
              have HGO := Aside0.mk hgo
              have hAl : Below wr.heap.size wr (wr.alloc (Obj.cells (((List.replicate 32 (0 : Int)).map (Value.int .u8)).toArray) 5 (0, 0))) := below_alloc (Below.refl _ _) _
              clear hss hog hd HOG hgo HTz hmk
              go_loopw [59] (fun v59 wq => ∃ j : Nat, j ≤ 32 ∧ v59 = .int .i64 (j : Int) ∧ Aside0 (IsBytes wq og 5 (outB ss.list j)) ∧ Aside0 (IsWords wq gS 246 ss.list) ∧ Aside0 (Below w.heap.size w wq)) (fun v59 _ => 32 - (intOf v59).toNat)
              case atStart => exact ⟨0, by omega, rfl, ⟨by rw [hog2]; exact heap_alloc_new wr _⟩, ⟨HIz.out.below hAl HIz.out.lt⟩, ⟨HBz.out.trans (hAl.mono HBz.out.size)⟩⟩
              case round =>
                obtain ⟨j, hj, rfl, HOj, HIj, HBj⟩ := hrel
                clear HIz HBz hAl hog2
                by_cases hj32 : j < 32
                · have hd : decide ((j : Int) < 32) = true := by simp; omega
                  obtain ⟨j4, hj4⟩ : ∃ j4, j4 = j / 4 := ⟨_, rfl⟩
                  have g1 : (j : Int) / 4 = (j4 : Int) := by omega
                  have g2 : j4 < 8 := by omega
                  have hcw := HIj.out.cell j4 (by show j4 < 8; omega)
                  have hlo : (outB ss.list j).length = 32 := outB_length _ _
                  have hco := HOj.out.cell j (by omega)
                  have hfo := HOj.out.frozen j
                  have HJ4 := Aside0.mk hj4
                  clear hj4 hlo
                  have hr4 : (j : Int) % 4 = 0 ∨ (j : Int) % 4 = 1 ∨ (j : Int) % 4 = 2 ∨ (j : Int) % 4 = 3 := by omega
                  rcases hr4 with hr4 | hr4 | hr4 | hr4
                  · go_wp2_with fail
                    have hwb : wordByte ss.list j = ss.list[j4]?.getD 0 / 16777216 % 256 := by rw [wordByte_0 _ _ (by omega), ← HJ4.out]
                    refine ⟨⟨j + 1, by omega, by go_num, ⟨?_⟩, ⟨(KeepBut.refl _ og none |>.set_ _ _).blk HIj.out (by have := HGO.out; omega) (by simp)⟩, ⟨HBj.out.setCell (by show w.heap.size ≤ og; exact HOGG.out) _⟩⟩, by simp only [intOf]; omega⟩
                    rw [← hwb]
                    exact HOj.out.set j _
                  · go_wp2_with fail
                    have hwb : wordByte ss.list j = ss.list[j4]?.getD 0 / 65536 % 256 := by rw [wordByte_1 _ _ (by omega), ← HJ4.out]
                    refine ⟨⟨j + 1, by omega, by go_num, ⟨?_⟩, ⟨(KeepBut.refl _ og none |>.set_ _ _).blk HIj.out (by have := HGO.out; omega) (by simp)⟩, ⟨HBj.out.setCell (by show w.heap.size ≤ og; exact HOGG.out) _⟩⟩, by simp only [intOf]; omega⟩
                    rw [← hwb]
                    exact HOj.out.set j _
                  · go_wp2_with fail
                    have hwb : wordByte ss.list j = ss.list[j4]?.getD 0 / 256 % 256 := by rw [wordByte_2 _ _ (by omega), ← HJ4.out]
                    refine ⟨⟨j + 1, by omega, by go_num, ⟨?_⟩, ⟨(KeepBut.refl _ og none |>.set_ _ _).blk HIj.out (by have := HGO.out; omega) (by simp)⟩, ⟨HBj.out.setCell (by show w.heap.size ≤ og; exact HOGG.out) _⟩⟩, by simp only [intOf]; omega⟩
                    rw [← hwb]
                    exact HOj.out.set j _
                  · go_wp2_with fail
                    have hwb : wordByte ss.list j = ss.list[j4]?.getD 0 % 256 := by rw [wordByte_3 _ _ (by omega), ← HJ4.out]
                    refine ⟨⟨j + 1, by omega, by go_num, ⟨?_⟩, ⟨(KeepBut.refl _ og none |>.set_ _ _).blk HIj.out (by have := HGO.out; omega) (by simp)⟩, ⟨HBj.out.setCell (by show w.heap.size ≤ og; exact HOGG.out) _⟩⟩, by simp only [intOf]; omega⟩
                    rw [← hwb]
                    exact HOj.out.set j _
                · obtain rfl : j = 32 := by omega
                  have hd : decide (((32 : Nat) : Int) < 32) = false := by decide
                  go_wp2_with fail
                  go_ret
                  have hrl := HRL.out
                  have hi64 : i = bs.length / 64 := by omega
                  have hfin : outB ss.list 32 = shaSum bs := by
                    unfold shaSum
                    rw [HSS.out, HDT.out, HMT.out, hi64]
                    unfold tailOf
                    rw [← hi64, ← HRS.out, ← HMT.out, ← HTT.out]
                  rw [← hfin]
                  exact ⟨_, rfl, HOj.out.R HOGG.out (outB_length _ _) (by decide), HBj.out⟩

end Go.Proofs.YtbedgjjiinhpkaaDoor.P

-- ShaD
set_option linter.unusedVariables false
set_option linter.unusedSimpArgs false
namespace Go.Proofs.YtbedgjjiinhpkaaDoor.P
open Go.RowKit Go.Proofs.YtbedgjjiinhpkaaDoorW.PrintWords Go.Proofs.YtbedgjjiinhpkaaDoorW.PrintLast Go.Proofs.YtbedgjjiinhpkaaDoorW.PrintMore

theorem shaSum_length (bs : List Int) : (shaSum bs).length = 32 := outB_length _ _

/-- What sha.Sum answers. -/
def sha_Sum.f (l0 : List Int) : Option (List Int) := if l0.length ≤ 140737488355328 then some (shaSum l0) else none
theorem sha_Sum.calls (A0 : Option Addr) (c0 : Nat) (l0 : List Int) (r : List Int) (w : World) (hr0 : Kd.C (Kd.int .u8) w A0 l0.length l0) (hc0 : l0.length ≤ c0) (hGS : GlobS w) (h : sha_Sum.f l0 = some r) :
    Calls Tryd.prog 186 #[.slice A0 l0.length c0] w fun e w' => ∃ v0_ : Value, e = .returned (v0_) ∧ Kd.R (Kd.int .u8) 5 w' w.heap.size (fun _ => True) v0_ r ∧ Below w.heap.size w w' := by
  unfold sha_Sum.f at h
  split at h
  case isFalse => cases h
  case isTrue hb =>
    obtain rfl := Option.some.inj h
    exact sum_any A0 c0 l0 w hr0 hc0 hb hGS

/-- What sha.Cut answers. -/
def sha_Cut.f (a0 : Int) (l1 : List Int) : Option (List Int) := if l1.length ≤ 140737488355328 then some ((shaSum l1).take (mn (mx a0 0) 32).toNat) else none

attribute [local go_sem] max2_int min2_int max_two min_two
set_option maxHeartbeats 1000000 in
set_option maxRecDepth 100000 in
theorem sha_Cut.calls (a0 : Int) (A1 : Option Addr) (c1 : Nat) (l1 : List Int) (r : List Int) (w : World) (hr1 : Kd.C (Kd.int .u8) w A1 l1.length l1) (hc1 : l1.length ≤ c1) (hGS : GlobS w) (h : sha_Cut.f a0 l1 = some r) :
    Calls Tryd.prog 151 #[.int .i64 a0, .slice A1 l1.length c1] w fun e w' => ∃ v0_ : Value, e = .returned (v0_) ∧ Kd.V (Kd.int .u8) 5 w' w.heap.size (fun k_ => w.heap.size ≤ k_) v0_ r ∧ Below w.heap.size w w' := by
  unfold sha_Cut.f at h
  split at h
  case isFalse => cases h
  case isTrue hb =>
    obtain rfl := Option.some.inj h
    obtain ⟨j, hj⟩ : ∃ j, j = mx a0 0 := ⟨_, rfl⟩
    obtain ⟨n, hn⟩ : ∃ n, n = mn j 32 := ⟨_, rfl⟩
    have e1 : (if a0 < 0 then 0 else a0) = j := hj.symm
    have e2 : (if 32 < j then 32 else j) = n := hn.symm
    have hn0 : 0 ≤ n := by rw [← e2, ← e1]; split <;> split <;> omega
    have hn32 : n ≤ 32 := by rw [← e2]; split <;> omega
    obtain ⟨m, rfl⟩ : ∃ m : Nat, n = (m : Int) := ⟨n.toNat, by omega⟩
    rw [← hj, ← hn, Int.toNat_natCast]
    have HR := Aside0.mk hr1
    have HC := Aside0.mk hc1
    have HGS := Aside0.mk hGS
    clear h hr1 hc1 hGS hj hn
    go_enter Tryd.func151, Tryd.ntmps151
    go_wp2_with fail
    refine (sum_any A1 c1 l1 w HR.out HC.out hb HGS.out).mono ?_
    rintro e w1 ⟨v, rfl, hR1, hB1⟩
    obtain ⟨A, c, rfl⟩ := Kd.R_slice hR1
    have hlc := (Kd.R_reads' hR1).2.1
    have HR1 := Aside0.mk hR1
    have HB1 := Aside0.mk hB1
    clear hR1 hB1
    have hl32 : (shaSum l1).length = 32 := shaSum_length l1
    have hmc : (m : Int) ≤ (c : Int) := by omega
    have hm32 : m ≤ 32 := by omega
    go_wp2_with fail
    go_ret
    have hR2 : Kd.R (Kd.int .u8) 5 w1 w.heap.size (fun k_ => w.heap.size ≤ k_) (.slice A m c) ((shaSum l1).take m) := Kd.R_mono (Kd.R_bound (Kd.R_take HR1.out (by omega))) (fun k hk => hk.2.1)
    have hlm : ((shaSum l1).take m).length = m := by rw [List.length_take]; omega
    have hV := (Kd.V_at (Kd.R_V (base' := w.heap.size) hR2)).2.2
    have hV2 := Kd.V_mk (base := w.heap.size) (e := 5) (Nat.le_refl _) hV
    rw [hlm] at hV2
    exact ⟨_, rfl, hV2, HB1.out⟩

end Go.Proofs.YtbedgjjiinhpkaaDoor.P

-- FtextsHash
namespace Go.Proofs.YtbedgjjiinhpkaaDoor.P
open Go.RowKit Go.Proofs.YtbedgjjiinhpkaaDoorW.PrintWords Go.Proofs.YtbedgjjiinhpkaaDoorW.PrintLast Go.Proofs.YtbedgjjiinhpkaaDoorW.PrintMore
attribute [local go_sem] max2_int min2_int max_two min_two max_three min_three max_four min_four   -- for this text's walks alone
set_option linter.unusedVariables false
set_option linter.unusedSimpArgs false

/-! ### texts_Hash: function 83 -/
def texts_Hash.f (k : Nat) (a0 : Int) (a1 : Int) (l2 : List (List Int)) : Option (List Int) := (texts_Text.f k a1 l2).bind fun bt120 => (if bt120.2 = 0 then ((sha_Cut.f a0 bt120.1).bind fun t124 => (some t124)) else (some ([] : List Int)))
theorem texts_Hash.mono : ∀ a0 a1 a2 k, LeO (texts_Hash.f k a0 a1 a2) (texts_Hash.f (k + 1) a0 a1 a2) := by
  intro a0 a1 a2 k
  unfold texts_Hash.f
  repeat' first
      | (with_reducible exact texts_Text.mono _ _ _)
      | (with_reducible exact LeO.refl _)
      | (with_reducible exact LeO.none _)
      | (with_reducible refine LeO.ite ?_ ?_)
      | (with_reducible refine LeO.bind ?_ (fun _ => ?_))
      | exact texts_Text.mono _ _ _
      | exact LeO.none _
      | refine LeO.ite ?_ ?_
      | refine LeO.bind ?_ (fun _ => ?_)
set_option maxHeartbeats 8000000 in
set_option maxRecDepth 100000 in
theorem texts_Hash.calls (k : Nat) (a0 : Int) (a1 : Int) (A2 : Option Addr) (c2 : Nat) (l2 : List (List Int)) (r : List Int) (w : World) (hr2 : Kd.C (Kd.slice 5 (Kd.int .u8)) w A2 l2.length l2) (hc2 : l2.length ≤ c2) (hGS : GlobS w) (h : texts_Hash.f k a0 a1 l2 = some r) :
    Calls Tryd.prog 83 #[.int .i64 a0, .int .i64 a1, .slice A2 l2.length c2] w fun e w' => ∃ v0_ : Value, e = .returned (v0_) ∧ Kd.V (Kd.int .u8) 5 w' w.heap.size (fun k_ => (w.heap.size ≤ k_)) v0_ r ∧ Below w.heap.size w w' := by
  have HGS := Aside0.mk hGS
  clear hGS
  have HR2 := Aside0.mk hr2
  have HC2 := Aside0.mk hc2
  clear hr2 hc2
  have HB := Aside0.mk (Below.refl w.heap.size w)
  have H : ((texts_Text.f k a1 l2).bind fun bt120 => (if bt120.2 = 0 then ((sha_Cut.f a0 bt120.1).bind fun t124 => (some t124)) else (some ([] : List Int)))) = some r := h
  clear h
  replace H := Option.bind_eq_some_iff.mp H
  obtain ⟨⟨t120, t121⟩, A40, H⟩ := H
  replace H : (if t121 = 0 then ((sha_Cut.f a0 t120).bind fun t124 => (some t124)) else (some ([] : List Int))) = some r := H
  have A4 := Aside0.mk A40
  clear A40
  by_cases c5 : t121 = 0
  · rw [if_pos c5] at H
    have c5b0 : (t121 == 0) = true := beq_iff_eq.mpr c5
    have c5b1 : (t121 != 0) = false := bne_eq_false_iff_eq.mpr c5
    clear c5
    replace H := Option.bind_eq_some_iff.mp H
    obtain ⟨t124, A60, H⟩ := H
    replace H : (some t124) = some r := H
    have A6 := Aside0.mk A60
    clear A60
    obtain rfl := Option.some.inj H
    go_enter Tryd.func83, Tryd.ntmps83
    go_wp2_with (first | ((with_reducible refine gate_callee (f := 150) rfl ?_); refine goesL_ (some 12) rfl rfl Tryd.func150 (by kernel_rfl) rfl #[.int .i64 a1, .slice A2 l2.length c2] rfl (by (try simp only [List.map_toArray, List.map_cons, List.map_nil]); first | done | rfl | (simp only [List.length_drop, List.length_take]; rfl)) ?_; (with_reducible refine (texts_Text.calls k a1 _ _ l2 t120 t121 _ ?side1 ?side2 A4.out).mono ?_); (case side1 => repeat (first | exact HR2.out | (with_reducible refine Kd.C_alloc ?_ _) | (with_reducible refine Kd.C_drewN ?_ _) | (with_reducible refine Kd.C_drew ?_))); (case side2 => exact HC2.out); rintro e w7 ⟨v122, rfl, ho0, hb⟩; refine ⟨_, rfl, ?_⟩; have n0_ := Aside0.mk (Kd.R_lower (Kd.R_newM (M := fun k_ => (w.heap.size ≤ k_)) ho0 (below_size (by repeat (first | (with_reducible first | exact HB.out | apply below_alloc | apply pw_below_drewN | apply below_drew1) | exact HB.out))) (fun k_ h_ => h_)) (below_size (by repeat (first | (with_reducible first | exact HB.out | apply below_alloc | apply pw_below_drewN | apply below_drew1) | exact HB.out)))); have n1_ := Aside0.mk (below_step (by repeat (first | (with_reducible first | exact HB.out | apply below_alloc | apply pw_below_drewN | apply below_drew1) | exact HB.out)) hb); clear HB; have HO123 := n0_; have HB := n1_; clear n0_ n1_; (try clear hb); (try clear hb2); (try clear hk); (try clear hi); (try clear ho0); obtain ⟨Ao8, co8, eo8⟩ := Kd.R_slice HO123.out; subst eo8) | ((with_reducible refine gate_callee (f := 151) rfl ?_); refine goesL_ (some 19) rfl rfl Tryd.func151 (by kernel_rfl) rfl #[.int .i64 a0, .slice Ao8 t120.length co8] rfl (by (try simp only [List.map_toArray, List.map_cons, List.map_nil]); first | done | rfl | (simp only [List.length_drop, List.length_take]; rfl)) ?_; (with_reducible refine (sha_Cut.calls a0 _ _ t120 t124 _ ?side1 ?side2 (by first | (with_reducible exact HGS.out) | exact GlobS.of HGS.out (by repeat (first | (with_reducible first | exact HB.out | apply below_alloc | apply pw_below_drewN | apply below_drew1) | exact HB.out)) | exact GlobS.of HGS.out (by repeat (first | exact Below.refl _ _ | apply below_alloc | apply pw_below_drewN | apply below_drew1))) A6.out).mono ?_); (case side1 => repeat (first | exact (Kd.R_reads' HO123.out).2.2 | (with_reducible refine Kd.C_alloc ?_ _) | (with_reducible refine Kd.C_drewN ?_ _) | (with_reducible refine Kd.C_drew ?_))); (case side2 => exact (Kd.R_reads' HO123.out).2.1); rintro e w9 ⟨v125, rfl, ho0, hb⟩; refine ⟨_, rfl, ?_⟩; have n0_ := Aside0.mk (Kd.R_below (by (with_reducible repeat (first | apply Kd.R_alloc | apply Kd.R_drewN | apply Kd.R_drew)); exact HO123.out) hb); have n1_ := Aside0.mk (Kd.V_lower (Kd.V_mono (ok' := fun k_ => (w.heap.size ≤ k_) ∧ some k_ ≠ (.slice Ao8 t120.length co8 : Value).ownBlock) ho0 (fun k_ hk_ => ⟨(Nat.le_trans (below_size (by repeat (first | (with_reducible first | exact HB.out | apply below_alloc | apply pw_below_drewN | apply below_drew1) | exact HB.out))) hk_), (Kd.fresh' (Kd.R_lt (by (with_reducible repeat (first | apply Kd.R_alloc | apply Kd.R_drewN | apply Kd.R_drew)); exact HO123.out)) k_ hk_)⟩)) (below_size (by repeat (first | (with_reducible first | exact HB.out | apply below_alloc | apply pw_below_drewN | apply below_drew1) | exact HB.out)))); have n2_ := Aside0.mk (below_step (by repeat (first | (with_reducible first | exact HB.out | apply below_alloc | apply pw_below_drewN | apply below_drew1) | exact HB.out)) hb); clear HO123; clear HB; have HO123 := n0_; have HO126 := n1_; have HB := n2_; clear n0_ n1_ n2_; (try clear hb); (try clear hb2); (try clear hk); (try clear hi); (try clear ho0)))
    go_ret
    exact ⟨_, by first | rfl | (simp [errW_none, errW_some] <;> rfl) | (simp [*, errW_none, errW_some] <;> rfl), by (with_reducible repeat (first | apply Kd.V_alloc | apply Kd.V_drewN | apply Kd.V_drew)); exact Kd.V_mono HO126.out (fun _ hk => hk.1), by repeat (first | (with_reducible first | exact HB.out | apply below_alloc | apply pw_below_drewN | apply below_drew1) | exact HB.out)⟩
  · rw [if_neg c5] at H
    have c5b0 : (t121 == 0) = false := beq_eq_false_iff_ne.mpr c5
    have c5b1 : (t121 != 0) = true := bne_iff_ne.mpr c5
    obtain rfl := Option.some.inj H
    go_enter Tryd.func83, Tryd.ntmps83
    go_wp2_with (first | ((with_reducible refine gate_callee (f := 150) rfl ?_); refine goesL_ (some 12) rfl rfl Tryd.func150 (by kernel_rfl) rfl #[.int .i64 a1, .slice A2 l2.length c2] rfl (by (try simp only [List.map_toArray, List.map_cons, List.map_nil]); first | done | rfl | (simp only [List.length_drop, List.length_take]; rfl)) ?_; (with_reducible refine (texts_Text.calls k a1 _ _ l2 t120 t121 _ ?side1 ?side2 A4.out).mono ?_); (case side1 => repeat (first | exact HR2.out | (with_reducible refine Kd.C_alloc ?_ _) | (with_reducible refine Kd.C_drewN ?_ _) | (with_reducible refine Kd.C_drew ?_))); (case side2 => exact HC2.out); rintro e w10 ⟨v122, rfl, ho0, hb⟩; refine ⟨_, rfl, ?_⟩; have n0_ := Aside0.mk (Kd.R_lower (Kd.R_newM (M := fun k_ => (w.heap.size ≤ k_)) ho0 (below_size (by repeat (first | (with_reducible first | exact HB.out | apply below_alloc | apply pw_below_drewN | apply below_drew1) | exact HB.out))) (fun k_ h_ => h_)) (below_size (by repeat (first | (with_reducible first | exact HB.out | apply below_alloc | apply pw_below_drewN | apply below_drew1) | exact HB.out)))); have n1_ := Aside0.mk (below_step (by repeat (first | (with_reducible first | exact HB.out | apply below_alloc | apply pw_below_drewN | apply below_drew1) | exact HB.out)) hb); clear HB; have HO123 := n0_; have HB := n1_; clear n0_ n1_; (try clear hb); (try clear hb2); (try clear hk); (try clear hi); (try clear ho0)))
    go_ret
    exact ⟨_, by first | rfl | (simp [errW_none, errW_some] <;> rfl) | (simp [*, errW_none, errW_some] <;> rfl), (by first | exact Kd.V_nil _ _ _ _ _ | exact Kd.R_V (by first | exact Kd.R_nil _ _ _ _ _ | exact Kd.N_nil _ _ _ _ _ | exact Kd.Q_nil _ _ _ _ _ | exact Kd.S_nil _ _ _ _ _)), by repeat (first | (with_reducible first | exact HB.out | apply below_alloc | apply pw_below_drewN | apply below_drew1) | exact HB.out)⟩

end Go.Proofs.YtbedgjjiinhpkaaDoor.P

-- TextB
set_option linter.unusedVariables false
set_option linter.unusedSimpArgs false
namespace Go.Proofs.YtbedgjjiinhpkaaDoor.P
open Go.RowKit Go.Proofs.YtbedgjjiinhpkaaDoorW.PrintWords Go.Proofs.YtbedgjjiinhpkaaDoorW.PrintLast Go.Proofs.YtbedgjjiinhpkaaDoorW.PrintMore

/-- A block of bytes, as a row that is shared. -/
theorem IsBytes.V {w : World} {g t e n base : Nat} {xs : List Int} (h : IsBytes w g t xs) (hb : base ≤ g) (hn : xs.length = n) (hm : n ≤ 9223372036854775807) : Kd.V (Kd.int .u8) e w base (fun k_ => base ≤ k_) (.slice (some ⟨g, 0, none⟩) n n) xs := by
  subst hn
  refine Kd.V_mk (Nat.le_refl _) ?_
  intro W' hW
  have h2 : IsBytes W' g t xs := (hW g hb h.lt).trans h
  have := h2.C (o := 0) (n := xs.length) (by omega) hm
  simpa using this

/-- The lowest bytes of x into the places below i. -/
def numRun : Nat → Int → List Int → List Int
  | 0, _, ys => ys
  | i + 1, x, ys => numRun i (x / 256) (ys.set i (x % 256))
def numBytes (n : Int) : List Int := numRun 8 n (List.replicate 8 0)
theorem numRun_length (i : Nat) : ∀ (x : Int) (ys : List Int), (numRun i x ys).length = ys.length := by
  induction i with
  | zero => intro x ys; rfl
  | succ i ih => intro x ys; simp only [numRun]; rw [ih, List.length_set]

def texts_Number.f (a0 : Int) : Option (List Int) := some (numBytes a0)

set_option maxHeartbeats 1000000 in
set_option maxRecDepth 100000 in
theorem texts_Number.calls (a0 : Int) (r : List Int) (w : World) (h : texts_Number.f a0 = some r) :
    Calls Tryd.prog 84 #[.int .i64 a0] w fun e w' => ∃ v0_ : Value, e = .returned (v0_) ∧ Kd.V (Kd.int .u8) 5 w' w.heap.size (fun k_ => w.heap.size ≤ k_) v0_ r ∧ Below w.heap.size w w' := by
  obtain rfl := Option.some.inj h
  clear h
  go_enter Tryd.func84, Tryd.ntmps84
  go_wp2_with fail
  obtain ⟨g, hg⟩ : ∃ g, g = w.heap.size := ⟨_, rfl⟩
  rw [← hg]
  have HG := Aside0.mk hg
  have hge : w.heap.size ≤ g := by omega
  clear hg
  go_loopw [0, 4] (fun v0 v4 wr => ∃ (i : Nat) (x : Int) (ys : List Int), i ≤ 8 ∧ v0 = .int .i64 x ∧ v4 = .int .i64 (i : Int) ∧ Aside0 (ys.length = 8) ∧ Aside0 (numRun i x ys = numBytes a0) ∧ Aside0 (IsBytes wr g 208 ys) ∧ Aside0 (Below w.heap.size w wr)) (fun _ v4 _ => (intOf v4).toNat)
  case atStart => exact ⟨8, a0, List.replicate 8 0, by omega, rfl, rfl, ⟨by rfl⟩, ⟨rfl⟩, ⟨by rw [HG.out]; exact heap_alloc_new w _⟩, ⟨below_alloc (Below.refl _ _) _⟩⟩
  case round =>
    obtain ⟨i, x, ys, hi, rfl, rfl, HL, HT, HI, HB⟩ := hrel
    by_cases hi0 : 0 < i
    · have hd : decide ((0 : Int) < (i : Int)) = true := by simp; omega
      obtain ⟨i, rfl⟩ : ∃ j, i = j + 1 := ⟨i - 1, by omega⟩
      have e1 : ((i + 1 : Nat) : Int) - 1 = (i : Int) := by omega
      have e2 : IntKind.i64.wrap (i : Int) = (i : Int) := by rw [IntKind.wrap_i64]; omega
      have hi8 : (i : Int) < 8 := by omega
      have hc := HI.out.cell i (by have := HL.out; omega)
      have hf := HI.out.frozen i
      go_wp2_with fail
      refine ⟨⟨i, x / 256, ys.set i (x % 256), by omega, rfl, rfl, ⟨by rw [List.length_set]; exact HL.out⟩, ⟨HT.out⟩, ⟨HI.out.set i _⟩, ⟨HB.out.setCell (by show w.heap.size ≤ g; exact hge) _⟩⟩, by simp only [intOf]; omega⟩
    · obtain rfl : i = 0 := by omega
      have hd : decide ((0 : Int) < ((0 : Nat) : Int)) = false := by decide
      go_wp2_with fail
      go_ret
      exact ⟨_, rfl, by rw [← HT.out]; exact HI.out.V hge HL.out (by decide), HB.out⟩

end Go.Proofs.YtbedgjjiinhpkaaDoor.P

-- FarenaLeafHash
namespace Go.Proofs.YtbedgjjiinhpkaaDoor.P
open Go.RowKit Go.Proofs.YtbedgjjiinhpkaaDoorW.PrintWords Go.Proofs.YtbedgjjiinhpkaaDoorW.PrintLast Go.Proofs.YtbedgjjiinhpkaaDoorW.PrintMore
attribute [local go_sem] max2_int min2_int max_two min_two max_three min_three max_four min_four   -- for this text's walks alone
set_option linter.unusedVariables false
set_option linter.unusedSimpArgs false

/-! ### arena_LeafHash: function 30 -/
def arena_LeafHash.f (k : Nat) (a0 : Int) (l1 : List Int) (l2 : List Int) (a3 : Int) : Option (List Int) := (texts_Number.f a3).bind fun t127 => ((texts_Hash.f k a0 1 (([l1, l2, t127] : List (List Int)))).bind fun t133 => (some t133))
theorem arena_LeafHash.mono : ∀ a0 a1 a2 a3 k, LeO (arena_LeafHash.f k a0 a1 a2 a3) (arena_LeafHash.f (k + 1) a0 a1 a2 a3) := by
  intro a0 a1 a2 a3 k
  unfold arena_LeafHash.f
  repeat' first
      | (with_reducible exact texts_Hash.mono _ _ _ _)
      | (with_reducible exact LeO.refl _)
      | (with_reducible exact LeO.none _)
      | (with_reducible refine LeO.ite ?_ ?_)
      | (with_reducible refine LeO.bind ?_ (fun _ => ?_))
      | exact texts_Hash.mono _ _ _ _
      | exact LeO.none _
      | refine LeO.ite ?_ ?_
      | refine LeO.bind ?_ (fun _ => ?_)
set_option maxHeartbeats 8000000 in
set_option maxRecDepth 100000 in
theorem arena_LeafHash.calls (k : Nat) (a0 : Int) (P1_ : Nat → Prop) (A1 : Option Addr) (c1 : Nat) (l1 : List Int) (P2_ : Nat → Prop) (A2 : Option Addr) (c2 : Nat) (l2 : List Int) (a3 : Int) (r : List Int) (w : World) (hs1 : Kd.V (Kd.int .u8) 5 w w.heap.size (fun k_ => P1_ k_) (.slice A1 l1.length c1) l1) (hs2 : Kd.V (Kd.int .u8) 5 w w.heap.size (fun k_ => P2_ k_) (.slice A2 l2.length c2) l2) (hGS : GlobS w) (h : arena_LeafHash.f k a0 l1 l2 a3 = some r) :
    Calls Tryd.prog 30 #[.int .i64 a0, .slice A1 l1.length c1, .slice A2 l2.length c2, .int .i64 a3] w fun e w' => ∃ v0_ : Value, e = .returned (v0_) ∧ Kd.V (Kd.int .u8) 5 w' w.heap.size (fun k_ => ((P1_ k_ ∨ P2_ k_) ∨ w.heap.size ≤ k_)) v0_ r ∧ Below w.heap.size w w' := by
  have HGS := Aside0.mk hGS
  clear hGS
  have HO1 := Aside0.mk (show Kd.V (Kd.int .u8) 5 w w.heap.size (fun k_ => ((P1_ k_ ∨ P2_ k_) ∨ w.heap.size ≤ k_)) (.slice A1 l1.length c1) l1 from Kd.V_mono hs1 (fun k_ hk => .inl (.inl hk)))
  have HO2 := Aside0.mk (show Kd.V (Kd.int .u8) 5 w w.heap.size (fun k_ => ((P1_ k_ ∨ P2_ k_) ∨ w.heap.size ≤ k_)) (.slice A2 l2.length c2) l2 from Kd.V_mono hs2 (fun k_ hk => .inl (.inr hk)))
  have HB := Aside0.mk (Below.refl w.heap.size w)
  have H : ((texts_Number.f a3).bind fun t127 => ((texts_Hash.f k a0 1 (([l1, l2, t127] : List (List Int)))).bind fun t133 => (some t133))) = some r := h
  clear h
  replace H := Option.bind_eq_some_iff.mp H
  obtain ⟨t127, A50, H⟩ := H
  replace H : ((texts_Hash.f k a0 1 (([l1, l2, t127] : List (List Int)))).bind fun t133 => (some t133)) = some r := H
  have A5 := Aside0.mk A50
  clear A50
  obtain ⟨y130, hy130⟩ : ∃ y_ : List (List Int), y_ = (([l1, l2, t127] : List (List Int))) := ⟨_, rfl⟩
  replace H : ((texts_Hash.f k a0 1 y130).bind fun t133 => (some t133)) = some r := by first | (rw [hy130]; with_reducible exact H) | (have H2_ := (Option.bind_some _ _).symm.trans H; rw [hy130]; with_reducible exact H2_) | (have H2_ := (Option.bind_some _ _).symm.trans H; with_reducible exact H2_) | with_reducible exact H | (rw [hy130]; exact H) | exact H
  have Ny130 := Aside0.mk hy130
  clear hy130
  replace H := Option.bind_eq_some_iff.mp H
  obtain ⟨t133, A60, H⟩ := H
  replace H : (some t133) = some r := H
  have A6 := Aside0.mk A60
  clear A60
  obtain rfl := Option.some.inj H
  go_enter Tryd.func30, Tryd.ntmps30
  go_wp2_with (first | ((with_reducible refine gate_callee (f := 84) rfl ?_); refine goesL_ (some 13) rfl rfl Tryd.func84 (by kernel_rfl) rfl #[.int .i64 a3] rfl (by (try simp only [List.map_toArray, List.map_cons, List.map_nil]); first | done | rfl | (simp only [List.length_drop, List.length_take]; rfl)) ?_; (with_reducible refine (texts_Number.calls a3 t127 _ A5.out).mono ?_); rintro e w7 ⟨v128, rfl, ho0, hb⟩; refine ⟨_, rfl, ?_⟩; have n0_ := Aside0.mk (Kd.V_below (by (with_reducible repeat (first | apply Kd.V_alloc | apply Kd.V_drewN | apply Kd.V_drew)); exact HO1.out) hb); have n1_ := Aside0.mk (Kd.V_below (by (with_reducible repeat (first | apply Kd.V_alloc | apply Kd.V_drewN | apply Kd.V_drew)); exact HO2.out) hb); have n2_ := Aside0.mk (Kd.V_lower (Kd.V_mono (ok' := fun k_ => ((P1_ k_ ∨ P2_ k_) ∨ w.heap.size ≤ k_)) ho0 (fun k_ hk_ => (.inr (Nat.le_trans (below_size (by repeat (first | (with_reducible first | exact HB.out | apply below_alloc | apply pw_below_drewN | apply below_drew1) | exact HB.out))) hk_)))) (below_size (by repeat (first | (with_reducible first | exact HB.out | apply below_alloc | apply pw_below_drewN | apply below_drew1) | exact HB.out)))); have n3_ := Aside0.mk (below_step (by repeat (first | (with_reducible first | exact HB.out | apply below_alloc | apply pw_below_drewN | apply below_drew1) | exact HB.out)) hb); clear HO1; clear HO2; clear HB; have HO1 := n0_; have HO2 := n1_; have HO129 := n2_; have HB := n3_; clear n0_ n1_ n2_ n3_; (try clear hb); (try clear hb2); (try clear hk); (try clear hi); (try clear ho0); obtain ⟨Ao8, co8, eo8⟩ := Kd.V_slice HO129.out; subst eo8) | ((with_reducible refine gate_dst (N := 14) rfl ?_); refine Kd.N_lit (Kd.slice 5 (Kd.int .u8)) _ 33 ?hg (N' := 14) ?hd (xs := ([l1, l2, t127] : List (List Int))) (inner := [.slice A1 l1.length c1, .slice A2 l2.length c2, .slice Ao8 t127.length co8]) (ok := (fun k_ => ((P1_ k_ ∨ P2_ k_) ∨ w.heap.size ≤ k_))) (okp := (fun k_ => ((P1_ k_ ∨ P2_ k_) ∨ w.heap.size ≤ k_))) ?hr ?hp (fun _ hk => hk) ((show ∀ k_, w7.heap.size ≤ k_ → (fun k_ => ((P1_ k_ ∨ P2_ k_) ∨ w.heap.size ≤ k_)) k_ from fun k_ hk => (.inr (Nat.le_trans (below_size (by repeat (first | (with_reducible first | exact HB.out | apply below_alloc | apply pw_below_drewN | apply below_drew1) | exact HB.out))) hk))) _ (Nat.le_refl _)) (Below.refl _ _) (Nat.le_refl _) (by simp) ?_; (case hd => rfl); (case hg => rfl); (case hr => first | (go_simp; done) | (go_simp; rfl)); (case hp => exact (Reps.one (show Kd.FK (Kd.slice 5 (Kd.int .u8)) _ _ l1 [.slice A1 l1.length c1] from (Kd.FK_slice_mk (Kd.V_reads' (Kd.V_mono (ok' := (fun k_ => ((P1_ k_ ∨ P2_ k_) ∨ w.heap.size ≤ k_))) (HO1.out) (fun k_ hk => hk))).2.1 (Kd.V_F (Kd.V_mono (ok' := (fun k_ => ((P1_ k_ ∨ P2_ k_) ∨ w.heap.size ≤ k_))) (HO1.out) (fun k_ hk => hk))))) (Reps.one (show Kd.FK (Kd.slice 5 (Kd.int .u8)) _ _ l2 [.slice A2 l2.length c2] from (Kd.FK_slice_mk (Kd.V_reads' (Kd.V_mono (ok' := (fun k_ => ((P1_ k_ ∨ P2_ k_) ∨ w.heap.size ≤ k_))) (HO2.out) (fun k_ hk => hk))).2.1 (Kd.V_F (Kd.V_mono (ok' := (fun k_ => ((P1_ k_ ∨ P2_ k_) ∨ w.heap.size ≤ k_))) (HO2.out) (fun k_ hk => hk))))) (Reps.one (show Kd.FK (Kd.slice 5 (Kd.int .u8)) _ _ t127 [.slice Ao8 t127.length co8] from (Kd.FK_slice_mk (Kd.V_reads' (Kd.V_mono (ok' := (fun k_ => ((P1_ k_ ∨ P2_ k_) ∨ w.heap.size ≤ k_))) (HO129.out) (fun k_ hk => hk))).2.1 (Kd.V_F (Kd.V_mono (ok' := (fun k_ => ((P1_ k_ ∨ P2_ k_) ∨ w.heap.size ≤ k_))) (HO129.out) (fun k_ hk => hk))))) (Reps.none _ _))))); intro v131 w9 ho10 hb hg_ hnew_; clear hg_ hnew_; (first | rw [← Ny130.out] at ho10 | (simp only [Int.reduceToNat] at ho10; rw [← Ny130.out] at ho10)); have n0_ := Aside0.mk (Kd.V_elder' (by (with_reducible repeat (first | apply Kd.V_alloc | apply Kd.V_drewN | apply Kd.V_drew)); exact HO1.out) (Kd.N_base ho10) hb); have n1_ := Aside0.mk (Kd.V_elder' (by (with_reducible repeat (first | apply Kd.V_alloc | apply Kd.V_drewN | apply Kd.V_drew)); exact HO2.out) (Kd.N_base ho10) hb); have n2_ := Aside0.mk (Kd.V_elder' (by (with_reducible repeat (first | apply Kd.V_alloc | apply Kd.V_drewN | apply Kd.V_drew)); exact HO129.out) (Kd.N_base ho10) hb); have n3_ := Aside0.mk (Kd.N_lower ho10 (below_size (by repeat (first | (with_reducible first | exact HB.out | apply below_alloc | apply pw_below_drewN | apply below_drew1) | exact HB.out)))); have n4_ := Aside0.mk (below_step (by repeat (first | (with_reducible first | exact HB.out | apply below_alloc | apply pw_below_drewN | apply below_drew1) | exact HB.out)) hb); clear HO1; clear HO2; clear HO129; clear HB; have HO1 := n0_; have HO2 := n1_; have HO129 := n2_; have HO132 := n3_; have HB := n4_; clear n0_ n1_ n2_ n3_ n4_; clear hb ho10; obtain ⟨Ao11, co11, eo11⟩ := Kd.N_slice HO132.out; subst eo11) | ((with_reducible refine gate_callee (f := 83) rfl ?_); refine goesL_ (some 15) rfl rfl Tryd.func83 (by kernel_rfl) rfl #[.int .i64 a0, .int .i64 1, .slice Ao11 y130.length co11] rfl (by (try simp only [List.map_toArray, List.map_cons, List.map_nil]); first | done | rfl | (simp only [List.length_drop, List.length_take]; rfl)) ?_; (with_reducible refine (texts_Hash.calls k a0 1 _ _ y130 t133 _ ?side1 ?side2 (by first | (with_reducible exact HGS.out) | exact GlobS.of HGS.out (by repeat (first | (with_reducible first | exact HB.out | apply below_alloc | apply pw_below_drewN | apply below_drew1) | exact HB.out)) | exact GlobS.of HGS.out (by repeat (first | exact Below.refl _ _ | apply below_alloc | apply pw_below_drewN | apply below_drew1))) A6.out).mono ?_); (case side1 => repeat (first | exact (Kd.N_reads' HO132.out).2.2 | (with_reducible refine Kd.C_alloc ?_ _) | (with_reducible refine Kd.C_drewN ?_ _) | (with_reducible refine Kd.C_drew ?_))); (case side2 => exact (Kd.N_reads' HO132.out).2.1); rintro e w12 ⟨v134, rfl, ho0, hb⟩; refine ⟨_, rfl, ?_⟩; have n0_ := Aside0.mk (Kd.V_below (by (with_reducible repeat (first | apply Kd.V_alloc | apply Kd.V_drewN | apply Kd.V_drew)); exact HO1.out) hb); have n1_ := Aside0.mk (Kd.V_below (by (with_reducible repeat (first | apply Kd.V_alloc | apply Kd.V_drewN | apply Kd.V_drew)); exact HO2.out) hb); have n2_ := Aside0.mk (Kd.V_below (by (with_reducible repeat (first | apply Kd.V_alloc | apply Kd.V_drewN | apply Kd.V_drew)); exact HO129.out) hb); have n3_ := Aside0.mk (Kd.N_below (by (with_reducible repeat (first | apply Kd.N_alloc | apply Kd.N_drewN | apply Kd.N_drew)); exact HO132.out) hb); have n4_ := Aside0.mk (Kd.V_lower (Kd.V_mono (ok' := fun k_ => ((P1_ k_ ∨ P2_ k_) ∨ w.heap.size ≤ k_) ∧ some k_ ≠ (.slice Ao11 y130.length co11 : Value).ownBlock) ho0 (fun k_ hk_ => ⟨(.inr (Nat.le_trans (below_size (by repeat (first | (with_reducible first | exact HB.out | apply below_alloc | apply pw_below_drewN | apply below_drew1) | exact HB.out))) hk_)), (Kd.fresh' (Kd.N_lt (by (with_reducible repeat (first | apply Kd.N_alloc | apply Kd.N_drewN | apply Kd.N_drew)); exact HO132.out)) k_ hk_)⟩)) (below_size (by repeat (first | (with_reducible first | exact HB.out | apply below_alloc | apply pw_below_drewN | apply below_drew1) | exact HB.out)))); have n5_ := Aside0.mk (below_step (by repeat (first | (with_reducible first | exact HB.out | apply below_alloc | apply pw_below_drewN | apply below_drew1) | exact HB.out)) hb); clear HO1; clear HO2; clear HO129; clear HO132; clear HB; have HO1 := n0_; have HO2 := n1_; have HO129 := n2_; have HO132 := n3_; have HO135 := n4_; have HB := n5_; clear n0_ n1_ n2_ n3_ n4_ n5_; (try clear hb); (try clear hb2); (try clear hk); (try clear hi); (try clear ho0)))
  go_ret
  exact ⟨_, by first | rfl | (simp [errW_none, errW_some] <;> rfl) | (simp [*, errW_none, errW_some] <;> rfl), by (with_reducible repeat (first | apply Kd.V_alloc | apply Kd.V_drewN | apply Kd.V_drew)); exact Kd.V_mono HO135.out (fun _ hk => hk.1), by repeat (first | (with_reducible first | exact HB.out | apply below_alloc | apply pw_below_drewN | apply below_drew1) | exact HB.out)⟩

end Go.Proofs.YtbedgjjiinhpkaaDoor.P

-- ArenaC
set_option linter.unusedVariables false
set_option linter.unusedSimpArgs false
namespace Go.Proofs.YtbedgjjiinhpkaaDoor.P
open Go.RowKit Go.Proofs.YtbedgjjiinhpkaaDoorW.PrintWords Go.Proofs.YtbedgjjiinhpkaaDoorW.PrintLast Go.Proofs.YtbedgjjiinhpkaaDoorW.PrintMore

abbrev BytesV (w : World) (ok : Nat → Prop) (v : Value) (l : List Int) : Prop := Kd.V (Kd.int .u8) 5 w w.heap.size ok v l

/-- What a leaf that was put leaves. -/
def LeafPost (P1 P2 : Nat → Prop) (p base : Nat) (size room : Int) (vc : Value) (A' : Option Addr) (c' : Nat) (cs : List (List Value)) (l1 l2 lh : List Int) (since : Int) (w w' : World) : Prop :=
  ∃ v1 B1 d1 B2 d2 B9 d9, ABlk w' p size room v1 (.slice A' 0 c') ∧
        CellsR w' base v1 (cs ++ [[.bool true, .bool true, .slice B1 l1.length d1, .slice B2 l2.length d2, .int .i64 since, .int .i64 0, .slice none 0 0, .int .i64 since, .int .i64 0, .int .i64 0, .slice B9 lh.length d9]]) ∧
        BytesV w' (fun k => (P1 k ∨ P2 k ∨ w.heap.size ≤ k) ∧ k ≠ p ∧ some k ≠ v1.ownBlock) (.slice B1 l1.length d1) l1 ∧ BytesV w' (fun k => (P1 k ∨ P2 k ∨ w.heap.size ≤ k) ∧ k ≠ p ∧ some k ≠ v1.ownBlock) (.slice B2 l2.length d2) l2 ∧ BytesV w' (fun k => (P1 k ∨ P2 k ∨ w.heap.size ≤ k) ∧ k ≠ p ∧ some k ≠ v1.ownBlock) (.slice B9 lh.length d9) lh ∧
        (v1.ownBlock = vc.ownBlock ∨ ∃ b, v1.ownBlock = some b ∧ w.heap.size ≤ b) ∧ KeepBut w w' p vc.ownBlock ∧ (base ≤ w.heap.size → Below base w w')

attribute [local go_sem] max2_int min2_int max_two min_two
set_option maxHeartbeats 4000000 in
set_option maxRecDepth 100000 in
theorem leaf_grow {w : World} {p base : Nat} {size room : Int} {vc : Value} {A' : Option Addr} {c' : Nat} {cs : List (List Value)} (P1 P2 : Nat → Prop) (A1 A2 : Option Addr) (c1 c2 : Nat) (l1 l2 lh : List Int) (since : Int) (k : Nat)
    (h : ABlk w p size room vc (.slice A' 0 c')) (hR : CellsR w base vc cs) (hs : size ≠ 0) (hb : base ≤ p) (hr : (cs.length : Int) < room) (hr1 : room ≤ 4194304)
    (h1 : BytesV w P1 (.slice A1 l1.length c1) l1) (h2 : BytesV w P2 (.slice A2 l2.length c2) l2) (n1 : ∀ k, P1 k → k ≠ p ∧ some k ≠ vc.ownBlock) (n2 : ∀ k, P2 k → k ≠ p ∧ some k ≠ vc.ownBlock)
    (hl1 : l1.length ≤ 65535) (hl2 : l2.length ≤ 65535) (hsi : 0 ≤ since) (hGS : GlobS w) (hf : arena_LeafHash.f k size l1 l2 since = some lh) :
    Calls Tryd.prog 39 #[.pointer (some ⟨p, 0, none⟩), .slice A1 l1.length c1, .slice A2 l2.length c2, .int .i64 since] w
      fun e w' => e = .returned (.tuple #[.int .i64 (cs.length : Int), .int .i64 0]) ∧ LeafPost P1 P2 p base size room vc A' c' cs l1 l2 lh since w w' := by
  obtain ⟨j, hj⟩ : ∃ j : Int, j = if l1.length < l2.length then (l2.length : Int) else (l1.length : Int) := ⟨_, rfl⟩
  have hj1 : decide (65535 < j) = false := decide_eq_false (by rw [hj]; split <;> omega)
  have hj2 := hj.symm
  have hsd : decide (since < 0) = false := decide_eq_false (by omega)
  have HBk := Aside0.mk h
  have HR := Aside0.mk hR
  have HS := Aside0.mk hs
  have HBP := Aside0.mk hb
  have HRL := Aside0.mk hr
  have HRM := Aside0.mk hr1
  have H1 := Aside0.mk h1
  have H2 := Aside0.mk h2
  have HN1 := Aside0.mk n1
  have HN2 := Aside0.mk n2
  have HL1 := Aside0.mk hl1
  have HL2 := Aside0.mk hl2
  have HGS := Aside0.mk hGS
  have HF := Aside0.mk hf
  clear h hR hs hb hr hr1 h1 h2 n1 n2 hl1 hl2 hGS hf hj hsi
  go_enter Tryd.func39, Tryd.ntmps39
  go_wp2_with fail
  refine (none_calls HBk.out HS.out).mono ?_
  rintro e w' ⟨rfl, rfl⟩
  go_wp2_with fail
  refine (slices_Clone_byte_byte.calls A1 c1 l1 l1 _ (Kd.V_reads' H1.out).2.2 (Kd.V_reads' H1.out).2.1 (if_pos (by have := HL1.out; omega))).mono ?_
  rintro e1 w1 ⟨v, rfl, hR1, hB1⟩
  obtain ⟨B1, d1, rfl⟩ := Kd.R_slice hR1
  have HR1 := Aside0.mk hR1
  have HB1 := Aside0.mk hB1
  clear hR1 hB1
  go_wp2_with fail
  refine (slices_Clone_byte_byte.calls A2 c2 l2 l2 _ (Kd.V_reads' (Kd.V_below H2.out HB1.out)).2.2 (Kd.V_reads' H2.out).2.1 (if_pos (by have := HL2.out; omega))).mono ?_
  rintro e2 w2 ⟨v, rfl, hR2, hB2⟩
  obtain ⟨B2, d2, rfl⟩ := Kd.R_slice hR2
  have HR2 := Aside0.mk hR2
  have HB2 := Aside0.mk hB2
  clear hR2 hB2
  have HBk2 := Aside0.mk ((HBk.out.below HB1.out).below HB2.out)
  obtain ⟨k0, k1, k2, k3⟩ := HBk2.out.cells
  have hp2 : p < w2.heap.size := HBk2.out.lt
  go_wp2_with fail
  obtain ⟨W3, hW3⟩ : ∃ W3, W3 = w2.alloc (.cells #[.bool true, .slice B1 l1.length d1, .slice B2 l2.length d2, .int .i64 since, .int .i64 0, .slice none 0 0, .int .i64 since, .int .i64 0, .int .i64 0, .slice none 0 0] 61) := ⟨_, rfl⟩
  rw [← hW3]
  have hB3 : Below w2.heap.size w2 W3 := by rw [hW3]; exact below_alloc (Below.refl _ _) _
  have hB03 : Below w.heap.size w W3 := (HB1.out.trans (HB2.out.mono HB1.out.size)).trans (hB3.mono (by have := HB1.out.size; have := HB2.out.size; omega))
  have hN3 : W3.heap[w2.heap.size]? = some (.cells #[.bool true, .slice B1 l1.length d1, .slice B2 l2.length d2, .int .i64 since, .int .i64 0, .slice none 0 0, .int .i64 since, .int .i64 0, .int .i64 0, .slice none 0 0] 61 (0, 0)) := by rw [hW3]; exact heap_alloc_new w2 _
  have HB3 := Aside0.mk hB3
  have HB03 := Aside0.mk hB03
  have HN3 := Aside0.mk hN3
  clear hB3 hB03 hN3 hW3 k0 k1 k2 k3 hp2
  refine (arena_LeafHash.calls k size (fun k => P1 k ∧ k < w.heap.size) A1 c1 l1 (fun k => P2 k ∧ k < w.heap.size) A2 c2 l2 since lh W3 (Kd.V_below (Kd.V_bound H1.out) HB03.out) (Kd.V_below (Kd.V_bound H2.out) HB03.out) (GlobS.of HGS.out HB03.out) HF.out).mono ?_
  rintro e3 w4 ⟨v, rfl, hV4, hB4⟩
  obtain ⟨B9, d9, rfl⟩ := Kd.V_slice hV4
  have HV4 := Aside0.mk hV4
  have HB4 := Aside0.mk hB4
  have HN4 := Aside0.mk ((hB4.block w2.heap.size (blk_lt HN3.out)).trans HN3.out)
  clear hV4 hB4
  obtain ⟨b, hb⟩ : ∃ b, b = w2.heap.size := ⟨_, rfl⟩
  rw [← hb] at HN4
  rw [← hb]
  have HBE := Aside0.mk hb
  clear hb
  have m0 := blk_cell HN4.out 0
  have m1 := blk_cell HN4.out 1
  have m2 := blk_cell HN4.out 2
  have m3 := blk_cell HN4.out 3
  have m4 := blk_cell HN4.out 4
  have m5 := blk_cell HN4.out 5
  have m6 := blk_cell HN4.out 6
  have m7 := blk_cell HN4.out 7
  have m8 := blk_cell HN4.out 8
  have m9 := blk_cell HN4.out 9
  have f9 := blk_frozen HN4.out 9
  go_wp2_with fail
  have s1 := HB1.out.size
  have s2 := HB2.out.size
  have s3 := HB3.out.size
  have s4 := HB4.out.size
  have hb3 : b < W3.heap.size := by rw [HBE.out]; exact blk_lt HN3.out
  have hpw : p < w.heap.size := HBk.out.lt
  have hbe := HBE.out
  have hB04 : Below w.heap.size w w4 := HB03.out.trans (HB4.out.mono (by omega))
  have hR4 : CellsR (w4.setCell ⟨b, 9, none⟩ (.slice B9 lh.length d9)) base vc cs := Kd.R_set (Kd.R_below HR.out hB04) HN4.out (by decide) 9 _
  have hK4 : ABlk (w4.setCell ⟨b, 9, none⟩ (.slice B9 lh.length d9)) p size room vc (.slice A' 0 c') := blk_far (HBk.out.below hB04) (p := ⟨b, 9, none⟩) (by show p ≠ b; omega) _
  refine (put_grow (base := base) true B1 B2 none B9 l1.length l2.length 0 lh.length d1 d2 0 d9 since 0 since 0 0 hK4 hR4 HS.out HBP.out HRL.out HRM.out).mono ?_
  rintro e5 w5 ⟨rfl, hpost⟩
  have HPO := Aside0.mk hpost
  clear hpost m0 m1 m2 m3 m4 m5 m6 m7 m8 m9 f9 s1 s2 s3 s4 hb3 hpw hbe hB04 hR4 hK4
  go_wp2_with fail
  go_ret2
  have s1 := HB1.out.size
  have s2 := HB2.out.size
  have s3 := HB3.out.size
  have s4 := HB4.out.size
  have hb3 : b < W3.heap.size := by rw [HBE.out]; exact blk_lt HN3.out
  have hpw : p < w.heap.size := HBk.out.lt
  have hbe := HBE.out
  have hB04 : Below w.heap.size w w4 := HB03.out.trans (HB4.out.mono (by omega))
  obtain ⟨v1, hA5, hR5, hat, hkb, hbel⟩ := HPO.out
  refine ⟨rfl, ?_⟩
  unfold LeafPost
  have hown : ∀ k, vc.ownBlock = some k → k < w.heap.size := fun k hk => by
    obtain ⟨inner, ho⟩ := Kd.R_own HR.out
    exact own_lt ho k hk
  have hsz : (w4.setCell ⟨b, 9, none⟩ (.slice B9 lh.length d9)).heap.size = w4.heap.size := by simp [World.setCell]
  have hst : ∀ k, k ≠ p → some k ≠ vc.ownBlock → k ≠ b → k < w4.heap.size → w5.heap[k]? = w4.heap[k]? := fun k h1 h2 h3 h4 => (hkb.2 k (by rw [hsz]; exact h4) h1 h2).trans (Below.heap_setCell w4 ⟨b, 9, none⟩ _ k h3)
  have hv1 : ∀ k, k < w4.heap.size → some k ≠ vc.ownBlock → some k ≠ v1.ownBlock := fun k h1 h2 => by
    rcases hat with h | ⟨q, h, hle⟩
    · rw [h]
      exact h2
    · rw [h]
      intro he
      injection he with he
      rw [hsz] at hle
      omega
  have hne : ∀ k, w.heap.size ≤ k → k ≠ p ∧ some k ≠ vc.ownBlock := fun k hk => ⟨by omega, fun he => by have := hown k he.symm; omega⟩
  have hV1 := Kd.V_below (Kd.V_below (Kd.V_below (Kd.R_V (base' := w.heap.size) (Kd.R_bound HR1.out)) HB2.out) HB3.out) HB4.out
  have hV2 := Kd.V_below (Kd.V_below (Kd.R_V (base' := w.heap.size) (Kd.R_bound HR2.out)) HB3.out) HB4.out
  have hV9 := Kd.V_bound HV4.out
  refine ⟨v1, B1, d1, B2, d2, B9, d9, hA5, hR5, ?_, ?_, ?_, ?_, ⟨?_, ?_⟩, ?_⟩
  · refine Kd.V_mono (Kd.V_step hV1 fun k hk hlt => ?_) fun k hk => ?_
    · exact hst k (hne k hk.2.1).1 (hne k hk.2.1).2 (by have := hk.2.2.1; omega) hlt
    · have := hk.2.2.1
      exact ⟨.inr (.inr hk.2.1), (hne k hk.2.1).1, hv1 k (by omega) (hne k hk.2.1).2⟩
  · refine Kd.V_mono (Kd.V_step hV2 fun k hk hlt => ?_) fun k hk => ?_
    · have h1 : w.heap.size ≤ k := by have := hk.2.1; omega
      exact hst k (hne k h1).1 (hne k h1).2 (by have := hk.2.2.1; omega) hlt
    · have h1 : w.heap.size ≤ k := by have := hk.2.1; omega
      have := hk.2.2.1
      exact ⟨.inr (.inr h1), (hne k h1).1, hv1 k (by omega) (hne k h1).2⟩
  · have hx : ∀ k, (((P1 k ∧ k < w.heap.size) ∨ (P2 k ∧ k < w.heap.size)) ∨ W3.heap.size ≤ k) → (P1 k ∨ P2 k ∨ w.heap.size ≤ k) ∧ (k ≠ p ∧ some k ≠ vc.ownBlock) ∧ k ≠ b := fun k hk => by
      rcases hk with (⟨h1, h2⟩ | ⟨h1, h2⟩) | h1
      · exact ⟨.inl h1, HN1.out k h1, by omega⟩
      · exact ⟨.inr (.inl h1), HN2.out k h1, by omega⟩
      · exact ⟨.inr (.inr (by omega)), hne k (by omega), by omega⟩
    refine Kd.V_mono (Kd.V_step hV9 fun k hk hlt => ?_) fun k hk => ?_
    · have h1 := hx k hk.1
      exact hst k h1.2.1.1 h1.2.1.2 h1.2.2 hlt
    · have h1 := hx k hk.1
      exact ⟨h1.1, h1.2.1.1, hv1 k hk.2 h1.2.1.2⟩
  · rcases hat with h | ⟨q, h, hle⟩
    · exact .inl h
    · exact .inr ⟨q, h, by omega⟩
  · have := hkb.1
    omega
  · intro i hi hip hio
    exact (hst i hip hio (by omega) (by omega)).trans (hB04.block i hi)
  · intro hbw
    have h1 : Below base w (w4.setCell ⟨b, 9, none⟩ (.slice B9 lh.length d9)) := (hB04.mono hbw).setCell (by show base ≤ b; omega) _
    exact h1.trans (hbel (by omega))

end Go.Proofs.YtbedgjjiinhpkaaDoor.P

-- Fannalsref01right
namespace Go.Proofs.YtbedgjjiinhpkaaDoor.P
open Go.RowKit Go.Proofs.YtbedgjjiinhpkaaDoorW.PrintWords Go.Proofs.YtbedgjjiinhpkaaDoorW.PrintLast Go.Proofs.YtbedgjjiinhpkaaDoorW.PrintMore
attribute [local go_sem] max2_int min2_int max_two min_two max_three min_three max_four min_four   -- for this text's walks alone
set_option linter.unusedVariables false
set_option linter.unusedSimpArgs false

/-! ### annalsref01_right: function 204 -/
def annalsref01_right.f (a0 : Int) (a1 : Int) : Option (Int) := if 0 ≤ a1 then (if 0 ≤ (wrap64 (32 - a1)) then (some (Go.bits .or .u32 (shr .u32 a0 a1) (shl .u32 a0 (wrap64 (32 - a1))))) else (none)) else (none)
set_option maxHeartbeats 8000000 in
set_option maxRecDepth 100000 in
theorem annalsref01_right.calls (a0 : Int) (a1 : Int) (r : Int) (w : World) (h : annalsref01_right.f a0 a1 = some r) :
    Calls Tryd.prog 204 #[.int .u32 a0, .int .i64 a1] w fun e w' => e = .returned (.int .u32 r) ∧ Drawn0 w w' := by
  have H : (if 0 ≤ a1 then (if 0 ≤ (wrap64 (32 - a1)) then (some (Go.bits .or .u32 (shr .u32 a0 a1) (shl .u32 a0 (wrap64 (32 - a1))))) else (none)) else (none)) = some r := h
  clear h
  by_cases c3 : 0 ≤ a1
  · rw [if_pos c3] at H
    have c3b0 := eq_true c3
    have c3b1 : decide (0 ≤ a1) = true := decide_eq_true c3
    clear c3
    obtain ⟨ji4, hji4⟩ : ∃ j_ : Int, (shr .u32 a0 a1) = j_ := ⟨_, rfl⟩
    replace H : (if 0 ≤ (wrap64 (32 - a1)) then (some (Go.bits .or .u32 (ji4) (shl .u32 a0 (wrap64 (32 - a1))))) else (none)) = some r := by first | (rw [hji4] at H; exact H) | (simp only [hji4] at H ⊢; exact H)
    have hji4_ : (a0 / 2 ^ min a1.toNat 32) = ji4 := hji4
    have hji4z : a1 ≤ 32 → (a0 / 2 ^ a1.toNat) = ji4 := shr_small hji4
    obtain ⟨ji5, hji5⟩ : ∃ j_ : Int, (wrap64 (32 - a1)) = j_ := ⟨_, rfl⟩
    replace H : (if 0 ≤ (ji5) then (some (Go.bits .or .u32 (ji4) (shl .u32 a0 (ji5)))) else (none)) = some r := by first | (rw [hji5] at H; exact H) | (simp only [hji5] at H ⊢; exact H)
    have hji5w : (IntKind.i64.wrap (32 - a1)) = ji5 := (i64_w _).trans hji5
    by_cases c6 : 0 ≤ (ji5)
    · rw [if_pos c6] at H
      have c6b0 := eq_true c6
      have c6b1 : decide (0 ≤ (ji5)) = true := decide_eq_true c6
      clear c6
      obtain ⟨ji7, hji7⟩ : ∃ j_ : Int, (shl .u32 a0 (ji5)) = j_ := ⟨_, rfl⟩
      replace H : (some (Go.bits .or .u32 (ji4) (ji7))) = some r := by first | (rw [hji7] at H; exact H) | (simp only [hji7] at H ⊢; exact H)
      have hji7_ : (IntKind.u32.wrap (a0 * 2 ^ min (ji5).toNat 32)) = ji7 := hji7
      have hji7z : (ji5) ≤ 32 → (IntKind.u32.wrap (a0 * 2 ^ (ji5).toNat)) = ji7 := shl_small hji7
      obtain rfl := Option.some.inj H
      go_enter Tryd.func204, Tryd.ntmps204
      go_wp2
      repeat (go_quiet (fail); try go_wp2)
      go_ret
      exact ⟨by first | rfl | (simp; done) | (simp only [← hji4, ← hji5, ← hji7] <;> (first | rfl | simp)) | (simp [*]; done), by repeat (first | exact Drawn0.refl _ | apply Drawn0.step)⟩
    · rw [if_neg c6] at H
      exact absurd H (by simp)
  · rw [if_neg c3] at H
    exact absurd H (by simp)

end Go.Proofs.YtbedgjjiinhpkaaDoor.P

-- RefA
set_option linter.unusedVariables false
set_option linter.unusedSimpArgs false
namespace Go.Proofs.YtbedgjjiinhpkaaDoor.P
open Go.RowKit Go.Proofs.YtbedgjjiinhpkaaDoorW.PrintWords Go.Proofs.YtbedgjjiinhpkaaDoorW.PrintLast Go.Proofs.YtbedgjjiinhpkaaDoorW.PrintMore

theorem right_some (x n : Int) (h0 : 0 ≤ n) (h1 : n ≤ 32) : annalsref01_right.f x n = some ((annalsref01_right.f x n).getD 0) := by
  unfold annalsref01_right.f
  rw [if_pos h0, if_pos (by unfold wrap64; omega)]
  rfl

theorem quiet_drawn0 {P : Program} {f : FuncId} {args : Array Value} {w : World} {v : Value}
    (h : Calls P f args w fun e w' => e = .returned v ∧ Drawn0 w w') : Calls P f args w fun e w'' => e = .returned v ∧ ∃ m, w'' = w.drewN m :=
  h.mono fun _ _ ⟨he, hd⟩ => ⟨he, hd.out⟩

def Sums.agg (s : Sums) : Value := .agg #[.int .u32 s.a, .int .u32 s.b, .int .u32 s.c, .int .u32 s.d, .int .u32 s.e, .int .u32 s.f, .int .u32 s.g, .int .u32 s.h]

/-- The reference's round. -/
def Sums.rround (s : Sums) (add : Int) : Sums :=
  let s0 := Go.bits .xor .u32 (Go.bits .xor .u32 ((annalsref01_right.f s.a 2).getD 0) ((annalsref01_right.f s.a 13).getD 0)) ((annalsref01_right.f s.a 22).getD 0)
  let s1 := Go.bits .xor .u32 (Go.bits .xor .u32 ((annalsref01_right.f s.e 6).getD 0) ((annalsref01_right.f s.e 11).getD 0)) ((annalsref01_right.f s.e 25).getD 0)
  let choice := Go.bits .xor .u32 (Go.bits .and .u32 s.e s.f) (Go.bits .and .u32 (Go.bits .xor .u32 IntKind.u32.max s.e) s.g)
  let most := Go.bits .xor .u32 (Go.bits .xor .u32 (Go.bits .and .u32 s.a s.b) (Go.bits .and .u32 s.a s.c)) (Go.bits .and .u32 s.b s.c)
  ⟨(s.h + s1 + choice + add + s0 + most) % 4294967296, s.a, s.b, s.c, (s.d + (s.h + s1 + choice + add)) % 4294967296, s.e, s.f, s.g⟩

set_option maxRecDepth 100000 in
theorem results_round (W : World) (g : Nat) (v : Sums) (h : IsWords W g 245 v.list) (tm : Array Value) (h4 : tm[4]?.getD undef = .pointer (some ⟨g, 0, none⟩)) : (results Tryd.f205 tm).run Tryd.prog W = .ok v.agg W := by
  obtain ⟨c0, c1, c2, c3, c4, c5, c6, c7⟩ := IsSums.cells h
  simp [results, Tryd.results205, go_sem, h4, c0, c1, c2, c3, c4, c5, c6, c7, Sums.agg]

set_option maxHeartbeats 4000000 in
set_option maxRecDepth 100000 in
theorem round_calls (s : Sums) (add : Int) (w : World) :
    Calls Tryd.prog 205 #[s.agg, .int .u32 add] w fun e w' => e = .returned (s.rround add).agg ∧ Below w.heap.size w w' := by
  obtain ⟨y1, h1⟩ : ∃ y, annalsref01_right.f s.a 2 = some y := ⟨_, right_some _ _ (by omega) (by omega)⟩
  obtain ⟨y2, h2⟩ : ∃ y, annalsref01_right.f s.a 13 = some y := ⟨_, right_some _ _ (by omega) (by omega)⟩
  obtain ⟨y3, h3⟩ : ∃ y, annalsref01_right.f s.a 22 = some y := ⟨_, right_some _ _ (by omega) (by omega)⟩
  obtain ⟨y4, h4⟩ : ∃ y, annalsref01_right.f s.e 6 = some y := ⟨_, right_some _ _ (by omega) (by omega)⟩
  obtain ⟨y5, h5⟩ : ∃ y, annalsref01_right.f s.e 11 = some y := ⟨_, right_some _ _ (by omega) (by omega)⟩
  obtain ⟨y6, h6⟩ : ∃ y, annalsref01_right.f s.e 25 = some y := ⟨_, right_some _ _ (by omega) (by omega)⟩
  have G1 := Aside0.mk h1
  have G2 := Aside0.mk h2
  have G3 := Aside0.mk h3
  have G4 := Aside0.mk h4
  have G5 := Aside0.mk h5
  have G6 := Aside0.mk h6
  clear h1 h2 h3 h4 h5 h6
  unfold Sums.agg
  go_enter Tryd.func205, Tryd.ntmps205
  go_wp2_with fail
  obtain ⟨W1, hW1⟩ : ∃ W1, W1 = (w.alloc (Obj.cells (#[.int .u32 s.a, .int .u32 s.b, .int .u32 s.c, .int .u32 s.d, .int .u32 s.e, .int .u32 s.f, .int .u32 s.g, .int .u32 s.h]) 245 (0, 0))).alloc (Obj.cells (#[.int .u32 0, .int .u32 0, .int .u32 0, .int .u32 0, .int .u32 0, .int .u32 0, .int .u32 0, .int .u32 0]) 245 (0, 0)) := ⟨_, rfl⟩
  have hz : (w.alloc (Obj.cells (#[.int .u32 s.a, .int .u32 s.b, .int .u32 s.c, .int .u32 s.d, .int .u32 s.e, .int .u32 s.f, .int .u32 s.g, .int .u32 s.h]) 245 (0, 0))).heap.size = w.heap.size + 1 := by simp
  have hI : IsWords W1 w.heap.size 245 s.list := by
    rw [hW1]
    exact (below_alloc (Below.refl _ _) _).block _ (by rw [hz]; omega) |>.trans (heap_alloc_new w _)
  have hJ : IsWords W1 (w.heap.size + 1) 245 [0, 0, 0, 0, 0, 0, 0, 0] := by
    rw [hW1, ← hz]
    exact heap_alloc_new _ _
  have hB : Below w.heap.size w W1 := by
    rw [hW1]
    exact (below_alloc (Below.refl _ _) _).trans ((below_alloc (Below.refl _ _) _).mono (by rw [hz]; omega))
  rw [← hW1]
  obtain ⟨g, hg⟩ : ∃ g, g = w.heap.size := ⟨_, rfl⟩
  rw [← hg] at hI hJ
  rw [← hg]
  have HJ := Aside0.mk hJ
  have HB := Aside0.mk hB
  have HG := Aside0.mk hg
  obtain ⟨c0, c1, c2, c3, c4, c5, c6, c7⟩ := IsSums.cells hI
  obtain ⟨d0, d1, d2, d3, d4, d5, d6, d7⟩ := IsSums.cells (s := ⟨0, 0, 0, 0, 0, 0, 0, 0⟩) hJ
  have f0 := hJ.frozen 0
  have f1 := hJ.frozen 1
  have f2 := hJ.frozen 2
  have f3 := hJ.frozen 3
  have f4 := hJ.frozen 4
  have f5 := hJ.frozen 5
  have f6 := hJ.frozen 6
  have f7 := hJ.frozen 7
  clear hI hJ hB hg hz hW1

  go_quiet ((go_at_call 204; (first | with_reducible exact quiet_drawn0 (annalsref01_right.calls s.a 2 y1 _ G1.out) | with_reducible exact quiet_drawn2 (annalsref01_right.calls s.a 2 y1 _ G1.out) | with_reducible exact quiet_drawn (annalsref01_right.calls s.a 2 y1 _ G1.out) | with_reducible exact quiet_drawn0 (annalsref01_right.calls s.a 13 y2 _ G2.out) | with_reducible exact quiet_drawn2 (annalsref01_right.calls s.a 13 y2 _ G2.out) | with_reducible exact quiet_drawn (annalsref01_right.calls s.a 13 y2 _ G2.out) | with_reducible exact quiet_drawn0 (annalsref01_right.calls s.a 22 y3 _ G3.out) | with_reducible exact quiet_drawn2 (annalsref01_right.calls s.a 22 y3 _ G3.out) | with_reducible exact quiet_drawn (annalsref01_right.calls s.a 22 y3 _ G3.out))))
  go_wp2_with fail
  go_quiet ((go_at_call 204; (first | with_reducible exact quiet_drawn0 (annalsref01_right.calls s.e 6 y4 _ G4.out) | with_reducible exact quiet_drawn2 (annalsref01_right.calls s.e 6 y4 _ G4.out) | with_reducible exact quiet_drawn (annalsref01_right.calls s.e 6 y4 _ G4.out) | with_reducible exact quiet_drawn0 (annalsref01_right.calls s.e 11 y5 _ G5.out) | with_reducible exact quiet_drawn2 (annalsref01_right.calls s.e 11 y5 _ G5.out) | with_reducible exact quiet_drawn (annalsref01_right.calls s.e 11 y5 _ G5.out) | with_reducible exact quiet_drawn0 (annalsref01_right.calls s.e 25 y6 _ G6.out) | with_reducible exact quiet_drawn2 (annalsref01_right.calls s.e 25 y6 _ G6.out) | with_reducible exact quiet_drawn (annalsref01_right.calls s.e 25 y6 _ G6.out))))
  go_wp2_with fail
  have hR : s.rround add = ⟨(s.h + Go.bits .xor .u32 (Go.bits .xor .u32 y4 y5) y6 + Go.bits .xor .u32 (Go.bits .and .u32 s.e s.f) (Go.bits .and .u32 (Go.bits .xor .u32 IntKind.u32.max s.e) s.g) + add + Go.bits .xor .u32 (Go.bits .xor .u32 y1 y2) y3 + Go.bits .xor .u32 (Go.bits .xor .u32 (Go.bits .and .u32 s.a s.b) (Go.bits .and .u32 s.a s.c)) (Go.bits .and .u32 s.b s.c)) % 4294967296, s.a, s.b, s.c, (s.d + (s.h + Go.bits .xor .u32 (Go.bits .xor .u32 y4 y5) y6 + Go.bits .xor .u32 (Go.bits .and .u32 s.e s.f) (Go.bits .and .u32 (Go.bits .xor .u32 IntKind.u32.max s.e) s.g) + add)) % 4294967296, s.e, s.f, s.g⟩ := by
    unfold Sums.rround
    rw [G1.out, G2.out, G3.out, G4.out, G5.out, G6.out]
    rfl
  have hW := fun n => put8_words (s := ⟨0, 0, 0, 0, 0, 0, 0, 0⟩) (HJ.out.drewN n) (s.rround add).a (s.rround add).b (s.rround add).c (s.rround add).d (s.rround add).e (s.rround add).f (s.rround add).g (s.rround add).h
  have hB2 := fun n => put8_below (w0 := w) (w := W1.drewN n) ⟨HB.out.os, HB.out.tape, HB.out.output, HB.out.size, HB.out.block⟩ (g := g + 1) (by have := HG.out; omega) (s.rround add).a (s.rround add).b (s.rround add).c (s.rround add).d (s.rround add).e (s.rround add).f (s.rround add).g (s.rround add).h
  obtain ⟨S, hS⟩ : ∃ S, S = s.rround add := ⟨_, rfl⟩
  rw [← hS] at hR hW hB2
  rw [← hS]
  obtain ⟨va, hva⟩ : ∃ va, va = S.a := ⟨_, rfl⟩
  obtain ⟨ve, hve⟩ : ∃ ve, ve = S.e := ⟨_, rfl⟩
  clear c0 c1 c2 c3 c4 c5 c6 c7 d0 d1 d2 d3 d4 d5 d6 d7 f0 f1 f2 f3 f4 f5 f6 f7
  have hSa : S.a = _ := congrArg Sums.a hR
  have hSe : S.e = _ := congrArg Sums.e hR
  have hSb : S.b = s.a := congrArg Sums.b hR
  have hSc : S.c = s.b := congrArg Sums.c hR
  have hSd : S.d = s.c := congrArg Sums.d hR
  have hSf : S.f = s.e := congrArg Sums.f hR
  have hSg : S.g = s.f := congrArg Sums.g hR
  have hSh : S.h = s.g := congrArg Sums.h hR
  simp only [hSb, hSc, hSd, hSf, hSg, hSh] at hW hB2
  rw [hSa, hSe] at hW hB2
  refine bodyPost_ret (v := S.agg) (results_round _ (g + 1) S ?_ _ rfl) rfl ⟨rfl, hB2 _⟩
  rw [hR]
  exact hW _

end Go.Proofs.YtbedgjjiinhpkaaDoor.P

-- RefB
set_option linter.unusedVariables false
set_option linter.unusedSimpArgs false
namespace Go.Proofs.YtbedgjjiinhpkaaDoor.P
open Go.RowKit Go.Proofs.YtbedgjjiinhpkaaDoorW.PrintWords Go.Proofs.YtbedgjjiinhpkaaDoorW.PrintLast Go.Proofs.YtbedgjjiinhpkaaDoorW.PrintMore

theorem results_row (fn : Func) (g t : Nat) (n e : Nat) (slot : Nat) (cs : Array Value) (tm : Array Value) (W : World) (hf : fn.results = #[.cell slot t]) (hu : Tryd.prog.underlying t = some (.array n e)) (hi : (Tryd.prog.info? t).map (·.size) = some cs.size)
    (h : W.heap[g]? = some (.cells cs t (0, 0))) (h4 : tm.getD slot undef = .pointer (some ⟨g, 0, none⟩)) : (results fn tm).run Tryd.prog W = .ok (.agg cs) W := by
  unfold results
  rw [hf]
  have hl := run_loadVar_row (P := Tryd.prog) W g t t cs (0, 0) (.array n e) h hu rfl hi
  have h4' : tm[slot]?.getD undef = .pointer (some ⟨g, 0, none⟩) := by simpa using h4
  simp [h4', asAddr, hl]

set_option maxHeartbeats 4000000 in
set_option maxRecDepth 100000 in
theorem adds_calls (w : World) :
    Calls Tryd.prog 201 #[] w fun e w' => e = .returned (.agg (words shaAdded)) ∧ Below w.heap.size w w' := by
  go_enter Tryd.func201, Tryd.ntmps201
  have hbl : Tryd.prog.built 248 ((List.range 64).map fun i => (i, Value.int .u32 (shaAdded.getD i 0))) = some (words shaAdded) := by kernel_rfl
  go_wp2_with (first | (refine wpList_build rfl 248 _ rfl (by kernel_rfl) ?_) | (refine wpList_store_row rfl 248 (.tmp 0) (.tmp 1) rfl w.heap.size (words shaAdded) rfl (by kernel_rfl) 248 _ (heap_alloc_new w _) (by kernel_rfl) (by kernel_rfl) (by kernel_rfl) ?_))
  refine bodyPost_ret (v := .agg (words shaAdded)) (results_row _ w.heap.size 248 64 203 0 _ _ _ rfl Tryd.underlying248 (by kernel_rfl) (setRow_heap _ _ _ _ _ _ (heap_alloc_new w _)) rfl) rfl ⟨rfl, below_setRow (below_alloc (Below.refl _ _) _) (Nat.le_refl _) _⟩

end Go.Proofs.YtbedgjjiinhpkaaDoor.P

-- Fannalsref01word
namespace Go.Proofs.YtbedgjjiinhpkaaDoor.P
open Go.RowKit Go.Proofs.YtbedgjjiinhpkaaDoorW.PrintWords Go.Proofs.YtbedgjjiinhpkaaDoorW.PrintLast Go.Proofs.YtbedgjjiinhpkaaDoorW.PrintMore
attribute [local go_sem] max2_int min2_int max_two min_two max_three min_three max_four min_four   -- for this text's walks alone
set_option linter.unusedVariables false
set_option linter.unusedSimpArgs false

/-! ### annalsref01_word: function 203 -/
def annalsref01_word.f (l0 : List Int) : Option (Int) := if 0 < (l0.length : Int) then (if 1 < (l0.length : Int) then (if 2 < (l0.length : Int) then (if 3 < (l0.length : Int) then (some ((((((((((rd l0 0) % 4294967296) * 16777216) % 4294967296) + ((((rd l0 1) % 4294967296) * 65536) % 4294967296)) % 4294967296) + ((((rd l0 2) % 4294967296) * 256) % 4294967296)) % 4294967296) + ((rd l0 3) % 4294967296)) % 4294967296)) else (none)) else (none)) else (none)) else (none)
set_option maxHeartbeats 8000000 in
set_option maxRecDepth 100000 in
theorem annalsref01_word.calls (A0 : Option Addr) (c0 : Nat) (l0 : List Int) (r : Int) (w : World) (hr0 : Kd.C (Kd.int .u8) w A0 l0.length l0) (hc0 : l0.length ≤ c0) (h : annalsref01_word.f l0 = some r) :
    Calls Tryd.prog 203 #[.slice A0 l0.length c0] w fun e w' => e = .returned (.int .u32 r) ∧ Drawn0 w w' := by
  have HR0 := Aside0.mk hr0
  have HC0 := Aside0.mk hc0
  clear hr0 hc0
  have H : (if 0 < (l0.length : Int) then (if 1 < (l0.length : Int) then (if 2 < (l0.length : Int) then (if 3 < (l0.length : Int) then (some ((((((((((rd l0 0) % 4294967296) * 16777216) % 4294967296) + ((((rd l0 1) % 4294967296) * 65536) % 4294967296)) % 4294967296) + ((((rd l0 2) % 4294967296) * 256) % 4294967296)) % 4294967296) + ((rd l0 3) % 4294967296)) % 4294967296)) else (none)) else (none)) else (none)) else (none)) = some r := h
  clear h
  by_cases c2 : 0 < (l0.length : Int)
  · rw [if_pos c2] at H
    have c2b0 : decide (0 < (l0.length : Int)) = true := decide_eq_true c2
    have c2b1 : decide (0 < l0.length) = true := decide_eq_true (by omega)
    clear c2
    by_cases c3 : 1 < (l0.length : Int)
    · rw [if_pos c3] at H
      have c3b0 : decide (1 < (l0.length : Int)) = true := decide_eq_true c3
      have c3b1 : decide (1 < l0.length) = true := decide_eq_true (by omega)
      clear c3
      by_cases c4 : 2 < (l0.length : Int)
      · rw [if_pos c4] at H
        have c4b0 : decide (2 < (l0.length : Int)) = true := decide_eq_true c4
        have c4b1 : decide (2 < l0.length) = true := decide_eq_true (by omega)
        clear c4
        by_cases c5 : 3 < (l0.length : Int)
        · rw [if_pos c5] at H
          have c5b0 : decide (3 < (l0.length : Int)) = true := decide_eq_true c5
          have c5b1 : decide (3 < l0.length) = true := decide_eq_true (by omega)
          clear c5
          obtain rfl := Option.some.inj H
          have p149 : 0 ≤ (0 : Int) := (by omega)
          have q149 : 0 < (l0.length : Int) := of_decide_eq_true (by first | (with_reducible assumption) | assumption)
          obtain ⟨ad149, e149, hx149_0⟩ := Kd.at_int HR0.out 0 p149 q149
          cases e149
          have qi149 : (0 < l0.length) = True := eq_true (by omega)
          (try rw [show ((0 : Int)).toNat = 0 from rfl] at hx149_0)
          (try rw [Addr.add_zero'] at hx149_0)
          replace p149 := eq_true p149
          replace q149 := eq_true q149
          have p150 : 0 ≤ (1 : Int) := (by omega)
          have q150 : 1 < (l0.length : Int) := of_decide_eq_true (by first | (with_reducible assumption) | assumption)
          obtain ⟨ad150, e150, hx150_0⟩ := Kd.at_int HR0.out 1 p150 q150
          obtain rfl : ad149 = ad150 := (by injection e150)
          (try simp only [show (1 : Int).toNat = 1 from rfl, Nat.reduceMul, Nat.reduceEqDiff, Go.Addr.add, ↓reduceIte] at hx150_0)
          have qi150 : (1 < l0.length) = True := eq_true (by omega)
          (try rw [show ((1 : Int)).toNat = 1 from rfl] at hx150_0)
          replace p150 := eq_true p150
          replace q150 := eq_true q150
          have p151 : 0 ≤ (2 : Int) := (by omega)
          have q151 : 2 < (l0.length : Int) := of_decide_eq_true (by first | (with_reducible assumption) | assumption)
          obtain ⟨ad151, e151, hx151_0⟩ := Kd.at_int HR0.out 2 p151 q151
          obtain rfl : ad149 = ad151 := (by injection e151)
          (try simp only [show (2 : Int).toNat = 2 from rfl, Nat.reduceMul, Nat.reduceEqDiff, Go.Addr.add, ↓reduceIte] at hx151_0)
          have qi151 : (2 < l0.length) = True := eq_true (by omega)
          (try rw [show ((2 : Int)).toNat = 2 from rfl] at hx151_0)
          replace p151 := eq_true p151
          replace q151 := eq_true q151
          have p152 : 0 ≤ (3 : Int) := (by omega)
          have q152 : 3 < (l0.length : Int) := of_decide_eq_true (by first | (with_reducible assumption) | assumption)
          obtain ⟨ad152, e152, hx152_0⟩ := Kd.at_int HR0.out 3 p152 q152
          obtain rfl : ad149 = ad152 := (by injection e152)
          (try simp only [show (3 : Int).toNat = 3 from rfl, Nat.reduceMul, Nat.reduceEqDiff, Go.Addr.add, ↓reduceIte] at hx152_0)
          have qi152 : (3 < l0.length) = True := eq_true (by omega)
          (try rw [show ((3 : Int)).toNat = 3 from rfl] at hx152_0)
          replace p152 := eq_true p152
          replace q152 := eq_true q152
          go_enter Tryd.func203, Tryd.ntmps203
          go_wp2
          repeat (go_quiet (fail); try go_wp2)
          go_ret
          exact ⟨by first | rfl | (simp; done) | (simp [*]; done), by repeat (first | exact Drawn0.refl _ | apply Drawn0.step)⟩
        · rw [if_neg c5] at H
          exact absurd H (by simp)
      · rw [if_neg c4] at H
        exact absurd H (by simp)
    · rw [if_neg c3] at H
      exact absurd H (by simp)
  · rw [if_neg c2] at H
    exact absurd H (by simp)

end Go.Proofs.YtbedgjjiinhpkaaDoor.P

-- Fannalsref01Blocks
namespace Go.Proofs.YtbedgjjiinhpkaaDoor.P
open Go.RowKit Go.Proofs.YtbedgjjiinhpkaaDoorW.PrintWords Go.Proofs.YtbedgjjiinhpkaaDoorW.PrintLast Go.Proofs.YtbedgjjiinhpkaaDoorW.PrintMore
attribute [local go_sem] max2_int min2_int max_two min_two max_three min_three max_four min_four   -- for this text's walks alone
set_option linter.unusedVariables false
set_option linter.unusedSimpArgs false

/-! ### annalsref01_Blocks: function 202 -/
def annalsref01_Blocks.f (a0 : Int) : Option (Int) := if a0 < 0 then (some (((0 : Int) / 64) + (((((0 : Int) % 64) + 9) + 63) / 64))) else (some (wrap64 ((wrap64 (Int.tdiv a0 64)) + (wrap64 (Int.tdiv (wrap64 ((wrap64 ((Int.tmod a0 64) + 9)) + 63)) 64)))))
set_option maxHeartbeats 8000000 in
set_option maxRecDepth 100000 in
theorem annalsref01_Blocks.calls (a0 : Int) (r : Int) (w : World) (h : annalsref01_Blocks.f a0 = some r) :
    Calls Tryd.prog 202 #[.int .i64 a0] w fun e w' => e = .returned (.int .i64 r) ∧ Drawn0 w w' := by
  have H : (if a0 < 0 then (some (((0 : Int) / 64) + (((((0 : Int) % 64) + 9) + 63) / 64))) else (some (wrap64 ((wrap64 (Int.tdiv a0 64)) + (wrap64 (Int.tdiv (wrap64 ((wrap64 ((Int.tmod a0 64) + 9)) + 63)) 64)))))) = some r := h
  clear h
  by_cases c2 : a0 < 0
  · rw [if_pos c2] at H
    have c2b0 : decide (a0 < 0) = true := decide_eq_true c2
    clear c2
    obtain rfl := Option.some.inj H
    go_enter Tryd.func202, Tryd.ntmps202
    go_wp2
    go_ret
    exact ⟨by first | rfl | (simp; done) | (simp [*]; done), by repeat (first | exact Drawn0.refl _ | apply Drawn0.step)⟩
  · rw [if_neg c2] at H
    have c2b0 : decide (a0 < 0) = false := decide_eq_false c2
    clear c2
    obtain rfl := Option.some.inj H
    go_enter Tryd.func202, Tryd.ntmps202
    go_wp2
    go_ret
    exact ⟨by first | rfl | (simp; done) | (simp [*]; done), by repeat (first | exact Drawn0.refl _ | apply Drawn0.step)⟩

end Go.Proofs.YtbedgjjiinhpkaaDoor.P

-- RefC
set_option linter.unusedVariables false
set_option linter.unusedSimpArgs false
namespace Go.Proofs.YtbedgjjiinhpkaaDoor.P
open Go.RowKit Go.Proofs.YtbedgjjiinhpkaaDoorW.PrintWords Go.Proofs.YtbedgjjiinhpkaaDoorW.PrintLast Go.Proofs.YtbedgjjiinhpkaaDoorW.PrintMore

/-- How many blocks the reference pads a text of n bytes to. -/
def rblocks (n : Nat) : Nat := n / 64 + (n % 64 + 72) / 64
theorem rblocks_f (n : Nat) (hn : n ≤ 140737488355328) : annalsref01_Blocks.f (n : Int) = some (rblocks n : Int) := by
  unfold annalsref01_Blocks.f rblocks
  rw [if_neg (by omega)]
  congr 1
  have e1 : Int.tdiv (n : Int) 64 = (n : Int) / 64 := Int.tdiv_eq_ediv_of_nonneg (by omega)
  have e2 : Int.tmod (n : Int) 64 = (n : Int) % 64 := Int.tmod_eq_emod_of_nonneg (by omega)
  have e3 : wrap64 (wrap64 ((n : Int) % 64 + 9) + 63) = (n : Int) % 64 + 72 := by unfold wrap64; omega
  rw [e1, e2, e3, Int.tdiv_eq_ediv_of_nonneg (by omega)]
  unfold wrap64
  omega

/-- A text, its mark, so many zeros. -/
def rpad (bs : List Int) (k : Nat) : List Int := bs ++ [128] ++ List.replicate k 0
/-- How many zeros there are. -/
def rzeros (n : Nat) : Nat := 64 * rblocks n - 8 - (n + 1)
theorem rzeros_eq (n : Nat) : n + 1 + rzeros n + 8 = 64 * rblocks n := by unfold rzeros rblocks; omega
theorem rzeros_le (n : Nat) : rzeros n ≤ 64 := by unfold rzeros rblocks; omega
/-- The length in bits, so many of its eight bytes. -/
def rlen (n : Nat) : Nat → List Int
  | 0 => []
  | k + 1 => rlen n k ++ [(8 * (n : Int)) / 2 ^ (56 - 8 * (k : Int)).toNat % 256]
theorem rlen_length (n k : Nat) : (rlen n k).length = k := by
  induction k with
  | zero => rfl
  | succ k ih => simp [rlen, ih]
def rtext (bs : List Int) : List Int := rpad bs (rzeros bs.length) ++ rlen bs.length 8
theorem rpad_length (bs : List Int) (k : Nat) : (rpad bs k).length = bs.length + 1 + k := by simp [rpad]; omega
theorem rtext_length (bs : List Int) : (rtext bs).length = 64 * rblocks bs.length := by
  unfold rtext
  rw [List.length_append, rpad_length, rlen_length]
  exact rzeros_eq _

/-- A word of a text. -/
def rword (ts : List Int) : Int := (annalsref01_word.f ts).getD 0
theorem rword_f (ts : List Int) (h : 4 ≤ ts.length) : annalsref01_word.f ts = some (rword ts) := by
  unfold rword annalsref01_word.f
  rw [if_pos (by omega), if_pos (by omega), if_pos (by omega), if_pos (by omega)]
  rfl
/-- A later word. -/
def rnext (ws : List Int) (i : Nat) : Int :=
  let a := ws.getD (i - 15) 0
  let c := ws.getD (i - 2) 0
  (ws.getD (i - 16) 0 + Go.bits .xor .u32 (Go.bits .xor .u32 ((annalsref01_right.f a 7).getD 0) ((annalsref01_right.f a 18).getD 0)) (a / 8) + ws.getD (i - 7) 0 + Go.bits .xor .u32 (Go.bits .xor .u32 ((annalsref01_right.f c 17).getD 0) ((annalsref01_right.f c 19).getD 0)) (c / 1024)) % 4294967296
/-- The words of the block at a place, so many of them. -/
def rws (ts : List Int) (at_ : Nat) : Nat → List Int
  | 0 => zeros64
  | i + 1 => (rws ts at_ i).set i (if i < 16 then rword (ts.drop (at_ + 4 * i)) else rnext (rws ts at_ i) i)
theorem rws_length (ts : List Int) (p i : Nat) : (rws ts p i).length = 64 := by
  induction i with
  | zero => rfl
  | succ i ih => simp [rws, ih]
/-- The sums behind so many rounds. -/
def rrounds (ts : List Int) (p : Nat) (h : Sums) : Nat → Sums
  | 0 => h
  | i + 1 => (rrounds ts p h i).rround ((shaAdded.getD i 0 + (rws ts p (i + 1)).getD i 0) % 4294967296)
/-- The sums behind so many blocks. -/
def rsums (ts : List Int) : Nat → Sums
  | 0 => Sums.first
  | m + 1 => Sums.of (addW (rsums ts m).list (rrounds ts (64 * m) (rsums ts m) 64).list 8)
/-- The bytes of so many words. -/
def rout (ws : List Int) : Nat → List Int
  | 0 => []
  | k + 1 => rout ws k ++ [ws.getD k 0 / 16777216 % 256, ws.getD k 0 / 65536 % 256, ws.getD k 0 / 256 % 256, ws.getD k 0 % 256]
theorem rout_length (ws : List Int) (k : Nat) : (rout ws k).length = 4 * k := by
  induction k with
  | zero => rfl
  | succ k ih => simp [rout, ih]; omega
/-- The reference's sum. -/
def refSum (bs : List Int) : List Int := rout (rsums (rtext bs) (rblocks bs.length)).list 8

/-- The reference's round, its argument written out. -/
theorem round_calls2 (s : Sums) (add : Int) (w : World) :
    Calls Tryd.prog 205 #[.agg #[.int .u32 s.a, .int .u32 s.b, .int .u32 s.c, .int .u32 s.d, .int .u32 s.e, .int .u32 s.f, .int .u32 s.g, .int .u32 s.h], .int .u32 add] w fun e w' => e = .returned (.agg #[.int .u32 (s.rround add).a, .int .u32 (s.rround add).b, .int .u32 (s.rround add).c, .int .u32 (s.rround add).d, .int .u32 (s.rround add).e, .int .u32 (s.rround add).f, .int .u32 (s.rround add).g, .int .u32 (s.rround add).h]) ∧ Below w.heap.size w w' :=
  round_calls s add w

set_option maxRecDepth 100000 in
theorem words8_index (s : Sums) (k : Nat) (hk : k < 8) (w : World) : (Instr.index 245 (.agg #[.int .u32 s.a, .int .u32 s.b, .int .u32 s.c, .int .u32 s.d, .int .u32 s.e, .int .u32 s.f, .int .u32 s.g, .int .u32 s.h]) (.int .i64 (k : Int))).run Tryd.prog w = .ok (.int .u32 (s.list.getD k 0)) w := by
  rcases (show k = 0 ∨ k = 1 ∨ k = 2 ∨ k = 3 ∨ k = 4 ∨ k = 5 ∨ k = 6 ∨ k = 7 by omega) with rfl | rfl | rfl | rfl | rfl | rfl | rfl | rfl
  all_goals kernel_rfl

theorem IsWords.grown {w w1 : World} {g t e base : Nat} {xs : List Int} {v : Value} {ok : Nat → Prop} {ys : List Int} (h : IsWords w g t xs) (hR : Kd.R (Kd.int .u8) e w base ok v ys) (hne : e ≠ t) (hg : w.grownBy w1 v.ownBlock) : IsWords w1 g t xs :=
  (hg.block g h.lt (Kd.R_ne hR h hne)).trans h

/-- What the call keeps at hand: the sums (block g3), what the rounds add (block g4). -/
structure RefMem (w0 w : World) (g3 g4 : Nat) (hs : List Int) : Prop where
  h3 : IsWords w g3 245 hs
  h4 : IsWords w g4 248 shaAdded
  bel : Below w0.heap.size w0 w
  ge3 : w0.heap.size ≤ g3
  ne : g3 ≠ g4
theorem RefMem.grown {w0 w w1 : World} {g3 g4 base : Nat} {hs ys : List Int} {v : Value} {ok : Nat → Prop} (h : RefMem w0 w g3 g4 hs) (hR : Kd.R (Kd.int .u8) 5 w base ok v ys) (hg : w.grownBy w1 v.ownBlock) (hb : Below w0.heap.size w0 w1) : RefMem w0 w1 g3 g4 hs :=
  ⟨h.h3.grown hR (by decide) hg, h.h4.grown hR (by decide) hg, hb, h.ge3, h.ne⟩
theorem RefMem.below {w0 w w1 : World} {g3 g4 : Nat} {hs : List Int} (h : RefMem w0 w g3 g4 hs) (hb : Below w.heap.size w w1) : RefMem w0 w1 g3 g4 hs :=
  ⟨h.h3.below hb h.h3.lt, h.h4.below hb h.h4.lt, h.bel.trans (hb.mono h.bel.size), h.ge3, h.ne⟩
theorem RefMem.start {w0 w1 : World} {o3 o4 : Obj} {hs : List Int} (ho : o3 = .cells (words hs) 245 (0, 0)) (hb : Below (w0.alloc o3).heap.size (w0.alloc o3) w1) {old : Array Value} (ho4 : o4 = .cells old 248 (0, 0)) :
    RefMem w0 ((w1.alloc o4).setRow w1.heap.size (words shaAdded)) w0.heap.size w1.heap.size hs := by
  have hz : (w0.alloc o3).heap.size = w0.heap.size + 1 := by simp
  have h0 : IsWords (w0.alloc o3) w0.heap.size 245 hs := by
    rw [ho]
    exact heap_alloc_new w0 _
  have hs1 : w0.heap.size + 1 ≤ w1.heap.size := by rw [← hz]; exact hb.size
  have h1 : IsWords w1 w0.heap.size 245 hs := h0.below hb (by omega)
  have ha : Below w1.heap.size w1 ((w1.alloc o4).setRow w1.heap.size (words shaAdded)) := below_setRow (below_alloc (Below.refl _ _) _) (Nat.le_refl _) _
  refine ⟨h1.below ha (by omega), ?_, ?_, Nat.le_refl _, by omega⟩
  · exact setRow_heap _ _ _ _ _ _ (by rw [ho4]; exact heap_alloc_new w1 _)
  · exact (below_alloc (Below.refl _ _) _).trans ((hb.trans (ha.mono hb.size)).mono (by omega))

/-- .. and a block's words (block g8), the sums that go on (block g9), the text. -/
structure RefMem2 (w0 w : World) (g3 g4 g8 g9 : Nat) (hs ws : List Int) (v : Sums) (vt : Value) (T : List Int) : Prop where
  mem : RefMem w0 w g3 g4 hs
  h8 : IsWords w g8 248 ws
  h9 : IsWords w g9 245 v.list
  txt : Kd.R (Kd.int .u8) 5 w w0.heap.size (fun _ => True) vt T
  ge8 : w0.heap.size ≤ g8
  ge9 : w0.heap.size ≤ g9
  n38 : g3 ≠ g8
  n48 : g4 ≠ g8
  n39 : g3 ≠ g9
  n49 : g4 ≠ g9
  n89 : g8 ≠ g9
theorem RefMem2.below {w0 w w1 : World} {g3 g4 g8 g9 : Nat} {hs ws : List Int} {v : Sums} {vt : Value} {T : List Int} (h : RefMem2 w0 w g3 g4 g8 g9 hs ws v vt T) (hb : Below w.heap.size w w1) : RefMem2 w0 w1 g3 g4 g8 g9 hs ws v vt T :=
  ⟨h.mem.below hb, h.h8.below hb h.h8.lt, h.h9.below hb h.h9.lt, Kd.R_below h.txt hb, h.ge8, h.ge9, h.n38, h.n48, h.n39, h.n49, h.n89⟩
theorem RefMem2.drewN {w0 w : World} {g3 g4 g8 g9 : Nat} {hs ws : List Int} {v : Sums} {vt : Value} {T : List Int} (h : RefMem2 w0 w g3 g4 g8 g9 hs ws v vt T) (n : Nat) : RefMem2 w0 (w.drewN n) g3 g4 g8 g9 hs ws v vt T :=
  h.below (pw_below_drewN (Below.refl _ _) n)
theorem RefMem.far {w0 w : World} {g3 g4 g : Nat} {hs : List Int} (h : RefMem w0 w g3 g4 hs) (h3 : g3 ≠ g) (h4 : g4 ≠ g) (hg : w0.heap.size ≤ g) (i : Nat) (u : Value) : RefMem w0 (w.setCell ⟨g, i, none⟩ u) g3 g4 hs :=
  ⟨blk_far h.h3 h3 _, blk_far h.h4 h4 _, h.bel.setCell hg _, h.ge3, h.ne⟩
theorem RefMem2.set8 {w0 w : World} {g3 g4 g8 g9 : Nat} {hs ws : List Int} {v : Sums} {vt : Value} {T : List Int} (h : RefMem2 w0 w g3 g4 g8 g9 hs ws v vt T) (i : Nat) (x : Int) : RefMem2 w0 (w.setCell ⟨g8, i, none⟩ (.int .u32 x)) g3 g4 g8 g9 hs (ws.set i x) v vt T :=
  ⟨h.mem.far h.n38 h.n48 h.ge8 _ _, h.h8.set i x, blk_far h.h9 (Ne.symm h.n89) _, Kd.R_set h.txt h.h8 (by decide) _ _, h.ge8, h.ge9, h.n38, h.n48, h.n39, h.n49, h.n89⟩
theorem RefMem2.set9 {w0 w : World} {g3 g4 g8 g9 : Nat} {hs ws : List Int} {v v' : Sums} {vt : Value} {T : List Int} (h : RefMem2 w0 w g3 g4 g8 g9 hs ws v vt T) (i : Nat) (x : Int) (hv : v'.list = v.list.set i x) : RefMem2 w0 (w.setCell ⟨g9, i, none⟩ (.int .u32 x)) g3 g4 g8 g9 hs ws v' vt T :=
  ⟨h.mem.far h.n39 h.n49 h.ge9 _ _, blk_far h.h8 h.n89 _, by rw [hv]; exact h.h9.set i x, Kd.R_set h.txt h.h9 (by decide) _ _, h.ge8, h.ge9, h.n38, h.n48, h.n39, h.n49, h.n89⟩
theorem RefMem2.put9 {w0 w : World} {g3 g4 g8 g9 : Nat} {hs ws : List Int} {v : Sums} {vt : Value} {T : List Int} (h : RefMem2 w0 w g3 g4 g8 g9 hs ws v vt T) (s : Sums) : RefMem2 w0 (put8 w g9 s.a s.b s.c s.d s.e s.f s.g s.h) g3 g4 g8 g9 hs ws s vt T := by
  have h0 := h.set9 (v' := ⟨s.a, v.b, v.c, v.d, v.e, v.f, v.g, v.h⟩) 0 s.a rfl
  have h1 := h0.set9 (v' := ⟨s.a, s.b, v.c, v.d, v.e, v.f, v.g, v.h⟩) 1 s.b rfl
  have h2 := h1.set9 (v' := ⟨s.a, s.b, s.c, v.d, v.e, v.f, v.g, v.h⟩) 2 s.c rfl
  have h3 := h2.set9 (v' := ⟨s.a, s.b, s.c, s.d, v.e, v.f, v.g, v.h⟩) 3 s.d rfl
  have h4 := h3.set9 (v' := ⟨s.a, s.b, s.c, s.d, s.e, v.f, v.g, v.h⟩) 4 s.e rfl
  have h5 := h4.set9 (v' := ⟨s.a, s.b, s.c, s.d, s.e, s.f, v.g, v.h⟩) 5 s.f rfl
  have h6 := h5.set9 (v' := ⟨s.a, s.b, s.c, s.d, s.e, s.f, s.g, v.h⟩) 6 s.g rfl
  exact h6.set9 (v' := s) 7 s.h rfl
theorem RefMem2.set3 {w0 w : World} {g3 g4 g8 g9 : Nat} {hs ws : List Int} {v : Sums} {vt : Value} {T : List Int} (h : RefMem2 w0 w g3 g4 g8 g9 hs ws v vt T) (i : Nat) (x : Int) : RefMem2 w0 (w.setCell ⟨g3, i, none⟩ (.int .u32 x)) g3 g4 g8 g9 (hs.set i x) ws v vt T :=
  ⟨⟨h.mem.h3.set i x, blk_far h.mem.h4 (Ne.symm h.mem.ne) _, h.mem.bel.setCell h.mem.ge3 _, h.mem.ge3, h.mem.ne⟩, blk_far h.h8 (Ne.symm h.n38) _, blk_far h.h9 (Ne.symm h.n39) _, Kd.R_set h.txt h.mem.h3 (by decide) _ _, h.ge8, h.ge9, h.n38, h.n48, h.n39, h.n49, h.n89⟩

theorem RefMem2.start {w wr W4 : World} {g3 g4 : Nat} {v : Sums} {vt : Value} {T : List Int} (hM : RefMem w wr g3 g4 v.list) (hT : Kd.R (Kd.int .u8) 5 wr w.heap.size (fun _ => True) vt T) {o8 o9 : Obj} (hW4 : W4 = (wr.alloc o8).alloc o9)
    (h8 : o8 = .cells (words zeros64) 248 (0, 0)) (h9 : o9 = .cells (words v.list) 245 (0, 0)) : RefMem2 w W4 g3 g4 wr.heap.size (wr.heap.size + 1) v.list zeros64 v vt T := by
  have hz : (wr.alloc o8).heap.size = wr.heap.size + 1 := by simp
  have b1 := below_alloc (Below.refl wr.heap.size wr) o8
  have b2 := below_alloc (Below.refl (wr.alloc o8).heap.size (wr.alloc o8)) o9
  have i8 : IsWords (wr.alloc o8) wr.heap.size 248 zeros64 := by
    rw [h8]
    exact heap_alloc_new wr _
  have i9 : IsWords W4 (wr.heap.size + 1) 245 v.list := by
    rw [hW4, ← hz, h9]
    exact heap_alloc_new _ _
  have b3 : Below wr.heap.size wr W4 := by
    rw [hW4]
    exact b1.trans (b2.mono (by omega))
  have l3 := hM.h3.lt
  have l4 := hM.h4.lt
  have ls := hM.bel.size
  exact ⟨hM.below b3, by rw [hW4]; exact i8.below b2 (by omega), i9, Kd.R_below hT b3, ls, by omega, by omega, by omega, by omega, by omega, by omega⟩
theorem name2 {G : World → Prop} {w : World} {o o' : Obj} (h : ∀ W, W = (w.alloc o).alloc o' → G W) : G ((w.alloc o).alloc o') := h _ rfl

theorem word_at (A2 : Option Addr) (c : Nat) (T : List Int) (j : Nat) (x : Int) (w : World) (hC : Kd.C (Kd.int .u8) w A2 (T.drop j).length (T.drop j)) (hc : (T.drop j).length ≤ c) (h : annalsref01_word.f (T.drop j) = some x) :
    Calls Tryd.prog 203 #[.slice A2 (T.length - j) c] w fun e w' => e = .returned (.int .u32 x) ∧ Drawn0 w w' := by
  rw [← List.length_drop]
  exact annalsref01_word.calls A2 c (T.drop j) x w hC hc h
theorem rws_at (ts : List Int) (p i : Nat) (hi : i < 64) : (rws ts p (i + 1)).getD i 0 = if i < 16 then rword (ts.drop (p + 4 * i)) else rnext (rws ts p i) i := by
  simp only [rws]
  rw [List.getD_eq_getElem?_getD, List.getElem?_set_self (by rw [rws_length]; exact hi)]
  rfl
theorem RefMem2.drew {w0 w : World} {g3 g4 g8 g9 : Nat} {hs ws : List Int} {v : Sums} {vt : Value} {T : List Int} (h : RefMem2 w0 w g3 g4 g8 g9 hs ws v vt T) : RefMem2 w0 w.drew g3 g4 g8 g9 hs ws v vt T :=
  h.below (below_drew (Below.refl _ _))

set_option maxHeartbeats 4000000 in
set_option maxRecDepth 100000 in
theorem rsum_any (A0 : Option Addr) (cap : Nat) (bs : List Int) (w : World) (hr : Kd.C (Kd.int .u8) w A0 bs.length bs) (hc : bs.length ≤ cap) (hb : bs.length ≤ 140737488355000) :
    Calls Tryd.prog 187 #[.slice A0 bs.length cap] w fun e w' => ∃ v0_, e = .returned v0_ ∧ Kd.R (Kd.int .u8) 5 w' w.heap.size (fun _ => True) v0_ (refSum bs) ∧ Below w.heap.size w w' := by
  have HR := Aside0.mk hr
  have HC := Aside0.mk hc
  have HBB := Aside0.mk hb
  clear hr hc hb
  go_enter Tryd.func187, Tryd.ntmps187
  go_wp2_with fail
  refine (adds_calls _).mono ?_
  rintro e1 w1 ⟨rfl, hB1⟩
  have HB1 := Aside0.mk hB1
  clear hB1
  go_wp2_with (first | (refine wpList_store_row rfl 248 (.tmp 4) (.tmp 18) rfl w1.heap.size (words shaAdded) rfl rfl 248 _ (heap_alloc_new w1 _) (by kernel_rfl) (by kernel_rfl) (by kernel_rfl) ?_; have HM := RefMem.start (w0 := w) (hs := shaFirst) rfl HB1.out (o4 := Obj.cells (#[.int .u32 0, .int .u32 0, .int .u32 0, .int .u32 0, .int .u32 0, .int .u32 0, .int .u32 0, .int .u32 0, .int .u32 0, .int .u32 0, .int .u32 0, .int .u32 0, .int .u32 0, .int .u32 0, .int .u32 0, .int .u32 0, .int .u32 0, .int .u32 0, .int .u32 0, .int .u32 0, .int .u32 0, .int .u32 0, .int .u32 0, .int .u32 0, .int .u32 0, .int .u32 0, .int .u32 0, .int .u32 0, .int .u32 0, .int .u32 0, .int .u32 0, .int .u32 0, .int .u32 0, .int .u32 0, .int .u32 0, .int .u32 0, .int .u32 0, .int .u32 0, .int .u32 0, .int .u32 0, .int .u32 0, .int .u32 0, .int .u32 0, .int .u32 0, .int .u32 0, .int .u32 0, .int .u32 0, .int .u32 0, .int .u32 0, .int .u32 0, .int .u32 0, .int .u32 0, .int .u32 0, .int .u32 0, .int .u32 0, .int .u32 0, .int .u32 0, .int .u32 0, .int .u32 0, .int .u32 0, .int .u32 0, .int .u32 0, .int .u32 0, .int .u32 0]) 248 (0, 0)) rfl; obtain ⟨W2, hW2⟩ : ∃ W2, W2 = (w1.alloc (Obj.cells (#[.int .u32 0, .int .u32 0, .int .u32 0, .int .u32 0, .int .u32 0, .int .u32 0, .int .u32 0, .int .u32 0, .int .u32 0, .int .u32 0, .int .u32 0, .int .u32 0, .int .u32 0, .int .u32 0, .int .u32 0, .int .u32 0, .int .u32 0, .int .u32 0, .int .u32 0, .int .u32 0, .int .u32 0, .int .u32 0, .int .u32 0, .int .u32 0, .int .u32 0, .int .u32 0, .int .u32 0, .int .u32 0, .int .u32 0, .int .u32 0, .int .u32 0, .int .u32 0, .int .u32 0, .int .u32 0, .int .u32 0, .int .u32 0, .int .u32 0, .int .u32 0, .int .u32 0, .int .u32 0, .int .u32 0, .int .u32 0, .int .u32 0, .int .u32 0, .int .u32 0, .int .u32 0, .int .u32 0, .int .u32 0, .int .u32 0, .int .u32 0, .int .u32 0, .int .u32 0, .int .u32 0, .int .u32 0, .int .u32 0, .int .u32 0, .int .u32 0, .int .u32 0, .int .u32 0, .int .u32 0, .int .u32 0, .int .u32 0, .int .u32 0, .int .u32 0]) 248 (0, 0))).setRow w1.heap.size (words shaAdded) := ⟨_, rfl⟩; rw [← hW2] at HM; rw [← hW2]; clear hW2; replace HM := Aside0.mk HM) | ((with_reducible refine gate_builtin (b := .append) (xs := #[.tmp 19, .tmp 20]) rfl ?_); go_must (at_builtin; refine Kd.R_append_rows (Kd.int .u8) (w0 := w) w.heap.size rfl (.tmp 19) (.tmp 20) 33 5 (.int .u8 0) 1 rfl Tryd.underlying33 info5 rfl (by decide) (by omega) (.slice none 0 0) [] bs _ _ _ (fun _ => True) (fun _ => False) rfl rfl ?aO ?aR (fun _ _ h => h) (fun _ h => h.elim) ?aF ?aB ?aS ?aL ?_; (case aR => exact Kd.C_below HR.out HM.out.bel); (case aB => exact HM.out.bel); (case aF => exact (fun _ _ => trivial)); (case aO => exact Kd.R_nil _ _ _ _ _); (case aS => exact HM.out.bel.size); (case aL => have := HBB.out; simp; omega); intro v2 w2 ho hb2 hg hat; rw [List.nil_append] at ho; have HM2 := Aside0.mk (HM.out.grown (Kd.R_nil (Kd.int .u8) _ _ w.heap.size (fun _ => True)) hg hb2); have HO2 := Aside0.mk ho; clear ho hb2 hg hat HM)) | ((with_reducible refine gate_builtin (b := .append) (xs := #[.tmp 21, .tmp 22]) rfl ?_); go_must (at_builtin; refine Kd.R_append (Kd.int .u8) (w0 := w) w.heap.size rfl (.tmp 21) (.tmp 22) 33 5 (.int .u8 0) 1 rfl Tryd.underlying33 info5 rfl (by decide) (by omega) v2 bs 128 [.int .u8 128] (fun _ => True) (fun _ => False) rfl rfl ?aP (fun _ h => h.elim) ?aF ?aO ?aB ?aS ?aL ?_; (case aP => exact rfl); (case aB => exact HM2.out.bel); (case aF => exact (fun _ _ => trivial)); (case aO => exact HO2.out); (case aS => exact HM2.out.bel.size); (case aL => have := HBB.out; omega); intro v3 w3 ho hb3 hg hat; have HM3 := Aside0.mk (HM2.out.grown HO2.out hg hb3); have HO3 := Aside0.mk (show Kd.R (Kd.int .u8) 5 w3 w.heap.size (fun _ => True) v3 (rpad bs 0) from by rw [rpad, List.replicate_zero, List.append_nil]; exact ho); clear ho hb3 hg hat HM2 HO2)))
  obtain ⟨g3, hg3⟩ : ∃ g, g = w.heap.size := ⟨_, rfl⟩
  obtain ⟨g4, hg4⟩ : ∃ g, g = w1.heap.size := ⟨_, rfl⟩
  replace HM3 : Aside0 (RefMem w w3 g3 g4 shaFirst) := ⟨by rw [hg3, hg4]; exact HM3.out⟩
  rw [← hg3, ← hg4]
  clear hg3 hg4 HB1
  obtain ⟨rb, hrb⟩ : ∃ rb : Int, rb = (rblocks bs.length : Int) := ⟨_, rfl⟩
  have HF := Aside0.mk (rblocks_f bs.length (by have := HBB.out; omega))
  rw [← hrb] at HF
  have rb0 : 0 ≤ rb := by omega
  have rb1 : rb ≤ 4398046511104 := by have := HBB.out; unfold rblocks at hrb; omega
  have HRB := Aside0.mk hrb
  have hn1 : (bs.length : Int) ≤ 140737488355000 := by have := HBB.out; omega
  clear hrb
  go_loopw [5] (fun v5 wr => ∃ k : Nat, k ≤ rzeros bs.length ∧ Aside0 (Kd.R (Kd.int .u8) 5 wr w.heap.size (fun _ => True) v5 (rpad bs k)) ∧ Aside0 (RefMem w wr g3 g4 shaFirst)) (fun v5 _ => match v5 with | .slice _ n _ => 64 * rblocks bs.length - n | _ => 0)
  case atStart => exact ⟨0, by omega, HO3, HM3⟩
  case round =>
    clear HO3 HM3
    obtain ⟨k, hk, HO, HM⟩ := hrel
    obtain ⟨A, c, rfl⟩ := Kd.R_slice HO.out
    have hz := rzeros_eq bs.length
    obtain ⟨xs, hxs⟩ : ∃ xs, xs = rpad bs k := ⟨_, rfl⟩
    have hxl : xs.length = bs.length + 1 + k := by rw [hxs]; exact rpad_length _ _
    rw [← hxs] at HO
    rw [← hxs]
    have HXS := Aside0.mk hxs
    have HXL := Aside0.mk hxl
    have HZ := Aside0.mk hz
    by_cases hlt : k < rzeros bs.length
    · have hd : decide ((xs.length : Int) < 64 * rb - 8) = true := by have := HRB.out; simp; omega
      have HLT := Aside0.mk hlt
      clear hlt hxs hxl hz hk
      go_wp2_with fail
      refine (annalsref01_Blocks.calls (bs.length : Int) rb _ HF.out).mono ?_
      rintro e2 w2 ⟨rfl, hdr⟩
      obtain ⟨q, rfl⟩ := hdr.out
      clear hdr
      go_wp2_with (first | ((with_reducible refine gate_builtin (b := .append) (xs := #[.tmp 32, .tmp 33]) rfl ?_); go_must (at_builtin; refine Kd.R_append (Kd.int .u8) (w0 := w) w.heap.size rfl (.tmp 32) (.tmp 33) 33 5 (.int .u8 0) 1 rfl Tryd.underlying33 info5 rfl (by decide) (by omega) (.slice A xs.length c) xs 0 [.int .u8 0] (fun _ => True) (fun _ => False) rfl rfl ?aP (fun _ h => h.elim) ?aF ?aO ?aB ?aS ?aL ?_; (case aP => exact rfl); (case aB => exact pw_below_drewN HM.out.bel _); (case aF => exact (fun _ _ => trivial)); (case aO => exact Kd.R_drewN HO.out _); (case aS => exact HM.out.bel.size); (case aL => have := HBB.out; have := HXL.out; have := HLT.out; have := rzeros_le bs.length; omega); intro v3 w3 ho hb3 hg hat; have HM3 := Aside0.mk ((HM.out.below (pw_below_drewN (Below.refl _ _) q)).grown (Kd.R_drewN HO.out q) hg hb3); have HO3 := Aside0.mk ho; clear ho hb3 hg hat HM HO)))
      have hxl := HXL.out
      have hlt := HLT.out
      have hz := HZ.out
      have hl1 : (xs ++ [0]).length = xs.length + 1 := by simp
      have he : xs ++ [0] = rpad bs (k + 1) := by rw [HXS.out]; simp [rpad, List.replicate_succ']
      obtain ⟨A3, c3, rfl⟩ := Kd.R_slice HO3.out
      refine ⟨⟨k + 1, by omega, by rw [← he]; exact HO3, HM3⟩, ?_⟩
      show 64 * rblocks bs.length - (xs ++ [0]).length < 64 * rblocks bs.length - xs.length
      omega
    · have hd : decide ((xs.length : Int) < 64 * rb - 8) = false := by have := HRB.out; simp; omega
      have hkz : k = rzeros bs.length := by omega
      rw [hkz] at HXS
      clear hlt hxs hxl hz hk hkz
      go_wp2_with fail
      refine (annalsref01_Blocks.calls (bs.length : Int) rb _ HF.out).mono ?_
      rintro e2 w2 ⟨rfl, hdr⟩
      obtain ⟨q, rfl⟩ := hdr.out
      clear hdr
      go_wp2_with fail
      replace HO := Aside0.mk (Kd.R_drewN HO.out q)
      replace HM := Aside0.mk (HM.out.below (pw_below_drewN (Below.refl _ _) q))
      obtain ⟨W, hW⟩ : ∃ W, W = wr.drewN q := ⟨_, rfl⟩
      rw [← hW] at HO HM
      rw [← hW]
      clear hW hd HXL HZ
      obtain ⟨vt, hvt⟩ : ∃ vt, vt = Value.slice A xs.length c := ⟨_, rfl⟩
      rw [← hvt] at HO
      rw [← hvt]
      clear hvt
      go_loopw [5, 6] (fun v5 v6 wr => ∃ (k : Nat) (i : Int), Aside0 (k ≤ 8 ∧ i = 56 - 8 * (k : Int)) ∧ v6 = .int .i64 i ∧ -8 ≤ i ∧ i ≤ 56 ∧ Aside0 (Kd.R (Kd.int .u8) 5 wr w.heap.size (fun _ => True) v5 (xs ++ rlen bs.length k)) ∧ Aside0 (RefMem w wr g3 g4 shaFirst)) (fun _ v6 _ => (intOf v6 + 8).toNat)
      case atStart => exact ⟨0, 56, ⟨by omega, by omega⟩, rfl, by omega, by omega, by rw [rlen, List.append_nil]; exact HO, HM⟩
      case round =>
        clear HO HM
        obtain ⟨k, i, HK, rfl, hi0, hi1, HO, HM⟩ := hrel
        obtain ⟨A5, c5, rfl⟩ := Kd.R_slice HO.out
        obtain ⟨ys, hys⟩ : ∃ ys, ys = xs ++ rlen bs.length k := ⟨_, rfl⟩
        have hyl : ys.length ≤ bs.length + 1 + 64 + 8 := by
          have := HK.out
          have := rzeros_le bs.length
          rw [hys, List.length_append, rlen_length, HXS.out, rpad_length]
          omega
        rw [← hys] at HO
        rw [← hys]
        have HYS := Aside0.mk hys
        have HYL := Aside0.mk hyl
        clear hys hyl
        by_cases hi : 0 ≤ i
        · have hd : decide (0 ≤ i) = true := decide_eq_true hi
          obtain ⟨b, hb⟩ : ∃ b, b = (8 * (bs.length : Int)) / 2 ^ i.toNat := ⟨_, rfl⟩
          have hq : (8 * (bs.length : Int)) / 2 ^ i.toNat = b := hb.symm
          have hi64 : i ≤ 64 := by omega
          have HB := Aside0.mk hb
          clear hb
          go_wp2_with (first | ((with_reducible refine gate_builtin (b := .append) (xs := #[.tmp 39, .tmp 47]) rfl ?_); go_must (at_builtin; refine Kd.R_append (Kd.int .u8) (w0 := w) w.heap.size rfl (.tmp 39) (.tmp 47) 33 5 (.int .u8 0) 1 rfl Tryd.underlying33 info5 rfl (by decide) (by omega) (.slice A5 ys.length c5) ys (b % 256) [.int .u8 (b % 256)] (fun _ => True) (fun _ => False) rfl rfl ?aP (fun _ h => h.elim) ?aF ?aO ?aB ?aS ?aL ?_; (case aP => exact rfl); (case aB => exact HM.out.bel); (case aF => exact (fun _ _ => trivial)); (case aO => exact HO.out); (case aS => exact HM.out.bel.size); (case aL => have := HBB.out; have := HYL.out; omega); intro v3 w3 ho hb3 hg hat; have HM3 := Aside0.mk (HM.out.grown HO.out hg hb3); have HO3 := Aside0.mk ho; clear ho hb3 hg hat HM HO)))
          have hk := HK.out
          have he : ys ++ [b % 256] = xs ++ rlen bs.length (k + 1) := by rw [HYS.out, HB.out, hk.2, rlen, List.append_assoc]
          refine ⟨⟨k + 1, i - 8, ⟨by omega, by omega⟩, by go_num, by omega, by omega, by rw [← he]; exact HO3, HM3⟩, by simp only [intOf]; omega⟩
        · have hd : decide (0 ≤ i) = false := decide_eq_false hi
          have hk8 : k = 8 := by have := HK.out; omega
          rw [hk8] at HYS
          have hT : ys = rtext bs := by rw [HYS.out, HXS.out]; rfl
          clear hi0 hi1 hk8 HYL
          obtain rfl := hT
          clear HYS
          obtain ⟨T, hT⟩ : ∃ T, T = rtext bs := ⟨_, rfl⟩
          have hTl : T.length = 64 * rblocks bs.length := by rw [hT]; exact rtext_length bs
          rw [← hT] at HO
          rw [← hT]
          have HT := Aside0.mk hT
          have HTL := Aside0.mk hTl
          clear hT hTl hi
          go_wp2_with fail
          clear hd
          go_loopw [7] (fun v7 wr => ∃ m p : Nat, m ≤ rblocks bs.length ∧ Aside0 (p = 64 * m) ∧ v7 = .int .i64 (p : Int) ∧ Aside0 (RefMem w wr g3 g4 (rsums T m).list) ∧ Aside0 (Kd.R (Kd.int .u8) 5 wr w.heap.size (fun _ => True) (.slice A5 T.length c5) T)) (fun v7 _ => 64 * rblocks bs.length - (intOf v7).toNat)
          case atStart => exact ⟨0, 0, by omega, ⟨rfl⟩, rfl, HM, HO⟩
          case round =>
            clear HM HO
            obtain ⟨m, p, hm, HP, rfl, HM, HO⟩ := hrel
            by_cases hlt : m < rblocks bs.length
            · have hd : decide (p < T.length) = true := by have := HTL.out; have := HP.out; simp; omega
              have hp0 : (p : Int) ≤ 562949953421312 := by have := HBB.out; have := HP.out; unfold rblocks at hlt; omega
              obtain ⟨S, hS⟩ : ∃ x, x = rsums T m := ⟨_, rfl⟩
              rw [← hS] at HM
              have HS := Aside0.mk hS
              obtain ⟨c0, c1, c2, c3, c4, c5', c6, c7⟩ := IsSums.cells HM.out.h3
              have hg3l : g3 < wr.heap.size := HM.out.h3.lt
              have HLT := Aside0.mk hlt
              clear hS hlt hm
              go_wp2_with fail
              clear c0 c1 c2 c3 c4 c5' c6 c7
              refine name2 (fun W4 hW4 => ?_)
              have HN : RefMem2 w W4 g3 g4 wr.heap.size (wr.heap.size + 1) S.list (rws T p 0) (rrounds T p S 0) (.slice A5 T.length c5) T := RefMem2.start HM.out HO.out hW4 rfl rfl
              obtain ⟨g8, hg8⟩ : ∃ g, g = wr.heap.size := ⟨_, rfl⟩
              rw [← hg8] at HN
              rw [← hg8]
              obtain ⟨g9, hg9⟩ : ∃ g, g = g8 + 1 := ⟨_, rfl⟩
              rw [← hg9] at HN
              rw [← hg9]
              replace HN := Aside0.mk HN
              clear hg8 hg9 hW4 hd hg3l
              go_loopw [56] (fun v56 wq => ∃ i : Nat, i ≤ 64 ∧ v56 = .int .i64 (i : Int) ∧ Aside0 (RefMem2 w wq g3 g4 g8 g9 S.list (rws T p i) (rrounds T p S i) (.slice A5 T.length c5) T)) (fun v56 _ => 64 - (intOf v56).toNat)
              case atStart => exact ⟨0, by omega, rfl, HN⟩
              case round =>
                clear HN
                obtain ⟨i, hi, rfl, HN⟩ := hrel
                by_cases hi64 : i < 64
                · have hd : decide ((i : Int) < 64) = true := by simp; omega
                  have HI64 := Aside0.mk hi64
                  have hwl : (rws T p i).length = 64 := rws_length _ _ _
                  have hTl := HTL.out
                  have hpm := HP.out
                  by_cases hi16 : i < 16
                  · have HI16 := Aside0.mk hi16
                    have hd2 : decide ((i : Int) < 16) = true := by simp; omega
                    obtain ⟨j, hj⟩ : ∃ j : Nat, j = p + 4 * i := ⟨_, rfl⟩
                    have e1 : (p : Int) + 4 * (i : Int) = (j : Int) := by omega
                    have hjm : j + 4 ≤ T.length := by have := HLT.out; omega
                    obtain ⟨_, hcap, hC⟩ := Kd.R_reads' HN.out.txt
                    obtain ⟨i0, hi0, _, hsz0, _⟩ := info_parts info5
                    obtain ⟨A2, hcut, hA2, hC2⟩ := print_drop_of (P := Tryd.prog) (Value.int .u8) 0 33 5 .i64 Tryd.underlying33 hi0 hsz0 A5 c5 T (j : Int) (by omega) (by omega) hcap
                    have HA2 := Aside0.mk (Kd.C_of_reads (h1 := fun _ => rfl) (hA2 _ (Kd.reads_of_C hC)))
                    have HC2 := Aside0.mk hC2
                    rw [Int.toNat_natCast] at HA2 HC2 hcut
                    have HJ := Aside0.mk hj
                    have hdl : 4 ≤ (T.drop j).length := by rw [List.length_drop]; omega
                    obtain ⟨x, hx⟩ : ∃ x, x = rword (T.drop j) := ⟨_, rfl⟩
                    have HX := Aside0.mk (rword_f _ hdl)
                    rw [← hx] at HX
                    have HXX := Aside0.mk hx
                    have hcw := HN.out.h8.cell i (by omega)
                    have hfw := HN.out.h8.frozen i
                    have hi64' : (i : Int) < 64 := by omega
                    have hjl : (j : Int) ≤ (T.length : Int) := by omega
                    clear hA2 hC2 hi0 hsz0 hcap hC hj hjm hdl hx hwl hTl hpm hi64 hi16 hi
                    go_wp2_with fail
                    refine (word_at A2 (c5 - j) T j x _ HA2.out HC2.out HX.out).mono ?_
                    rintro e2 w2 ⟨rfl, hdr⟩
                    obtain ⟨q, rfl⟩ := hdr.out
                    clear hdr
                    go_wp2_with fail
                    have he : rws T p (i + 1) = (rws T p i).set i x := by
                      rw [HXX.out, HJ.out]
                      simp only [rws]
                      rw [if_pos HI16.out]
                    obtain ⟨V, hV⟩ : ∃ a, a = rrounds T p S i := ⟨_, rfl⟩
                    have HVV := Aside0.mk hV
                    rw [← hV] at HN
                    replace HN : Aside0 (RefMem2 w ((wr.drewN q).setCell ⟨g8, i, none⟩ (.int .u32 x)) g3 g4 g8 g9 S.list (rws T p (i + 1)) V (.slice A5 T.length c5) T) := ⟨by rw [he]; exact (HN.out.drewN q).set8 i x⟩
                    clear hV he hcut hcw hfw
                    refine still_tail_at 8 (by kernel_rfl) (by kernel_rfl) (fun W hW => ?_)
                    replace HN : Aside0 (RefMem2 w W g3 g4 g8 g9 S.list (rws T p (i + 1)) V (.slice A5 T.length c5) T) := ⟨by rw [hW]; exact HN.out.drew⟩
                    clear hW
                    obtain ⟨c0, c1, c2, c3, c4, c5', c6, c7⟩ := IsSums.cells HN.out.h9
                    obtain ⟨ai, hai⟩ : ∃ a, a = shaAdded.getD i 0 := ⟨_, rfl⟩
                    obtain ⟨xi, hxi⟩ : ∃ a, a = (rws T p (i + 1)).getD i 0 := ⟨_, rfl⟩
                    have ca := HN.out.mem.h4.cell i (by have := HI64.out; show i < 64; omega)
                    have cx := HN.out.h8.cell i (by rw [rws_length]; exact HI64.out)
                    rw [← hai] at ca
                    rw [← hxi] at cx
                    have HAX := Aside0.mk (And.intro hai hxi)
                    clear hai hxi
                    simp only [List.take_succ_cons, List.take_zero, List.drop_succ_cons, List.drop_zero]
                    repeat still_step
                    refine wpStill_nil ?_
                    go_wp2_with fail
                    refine (round_calls2 V ((ai + xi) % 4294967296) _).mono ?_
                    rintro e3 w3 ⟨rfl, hB3⟩
                    replace HN : Aside0 (RefMem2 w w3 g3 g4 g8 g9 S.list (rws T p (i + 1)) V (.slice A5 T.length c5) T) := ⟨HN.out.below hB3⟩
                    clear hB3 c0 c1 c2 c3 c4 c5' c6 c7 ca cx
                    obtain ⟨V2, hV2⟩ : ∃ a, a = V.rround ((ai + xi) % 4294967296) := ⟨_, rfl⟩
                    rw [← hV2]
                    have HV2 := Aside0.mk hV2
                    clear hV2
                    obtain ⟨c0, c1, c2, c3, c4, c5', c6, c7⟩ := IsSums.cells HN.out.h9
                    have f0 := HN.out.h9.frozen 0
                    have f1 := HN.out.h9.frozen 1
                    have f2 := HN.out.h9.frozen 2
                    have f3 := HN.out.h9.frozen 3
                    have f4 := HN.out.h9.frozen 4
                    have f5 := HN.out.h9.frozen 5
                    have f6 := HN.out.h9.frozen 6
                    have f7 := HN.out.h9.frozen 7
                    go_wp2_with fail
                    have hN2 := HN.out.put9 V2
                    have hr : rrounds T p S (i + 1) = V2 := by rw [HV2.out, HAX.out.1, HAX.out.2, HVV.out]; rfl
                    refine ⟨⟨i + 1, by have := HI64.out; omega, by go_num, by rw [hr]; exact ⟨hN2⟩⟩, by have := HI64.out; simp only [intOf]; omega⟩
                  · have HI16 := Aside0.mk hi16
                    have hd2 : decide ((i : Int) < 16) = false := by simp; omega
                    have pj : 0 ≤ (i : Int) := by omega
                    have qj : (i : Int) < 64 := by omega
                    obtain ⟨xs9, hxs9⟩ : ∃ xs, xs = rws T p i := ⟨_, rfl⟩
                    have hx9l : xs9.length = 64 := by rw [hxs9]; exact rws_length _ _ _
                    rw [← hxs9] at HN
                    have HXS9 := Aside0.mk hxs9
                    obtain ⟨j2, hj2⟩ : ∃ x, x = i - 2 := ⟨_, rfl⟩
                    have d2 := HN.out.h8.cell j2 (by omega)
                    obtain ⟨x2, hx2⟩ : ∃ x, x = xs9.getD j2 0 := ⟨_, rfl⟩
                    rw [← hx2] at d2
                    have Hj2 := Aside0.mk hj2
                    clear hj2
                    obtain ⟨j7, hj7⟩ : ∃ x, x = i - 7 := ⟨_, rfl⟩
                    have d7 := HN.out.h8.cell j7 (by omega)
                    obtain ⟨x7, hx7⟩ : ∃ x, x = xs9.getD j7 0 := ⟨_, rfl⟩
                    rw [← hx7] at d7
                    have Hj7 := Aside0.mk hj7
                    clear hj7
                    obtain ⟨j15, hj15⟩ : ∃ x, x = i - 15 := ⟨_, rfl⟩
                    have d15 := HN.out.h8.cell j15 (by omega)
                    obtain ⟨x15, hx15⟩ : ∃ x, x = xs9.getD j15 0 := ⟨_, rfl⟩
                    rw [← hx15] at d15
                    have Hj15 := Aside0.mk hj15
                    clear hj15
                    obtain ⟨j16, hj16⟩ : ∃ x, x = i - 16 := ⟨_, rfl⟩
                    have d16 := HN.out.h8.cell j16 (by omega)
                    obtain ⟨x16, hx16⟩ : ∃ x, x = xs9.getD j16 0 := ⟨_, rfl⟩
                    rw [← hx16] at d16
                    have Hj16 := Aside0.mk hj16
                    clear hj16
                    have HX := Aside0.mk (And.intro hx2 (And.intro hx7 (And.intro hx15 hx16)))
                    have hf := HN.out.h8.frozen i
                    have hcj := HN.out.h8.cell i (by omega)
                    obtain ⟨y1, hy1⟩ : ∃ y, y = (annalsref01_right.f x15 7).getD 0 := ⟨_, rfl⟩
                    obtain ⟨y2, hy2⟩ : ∃ y, y = (annalsref01_right.f x15 18).getD 0 := ⟨_, rfl⟩
                    obtain ⟨y3, hy3⟩ : ∃ y, y = (annalsref01_right.f x2 17).getD 0 := ⟨_, rfl⟩
                    obtain ⟨y4, hy4⟩ : ∃ y, y = (annalsref01_right.f x2 19).getD 0 := ⟨_, rfl⟩
                    have G1 := Aside0.mk (right_some x15 7 (by omega) (by omega))
                    have G2 := Aside0.mk (right_some x15 18 (by omega) (by omega))
                    have G3 := Aside0.mk (right_some x2 17 (by omega) (by omega))
                    have G4 := Aside0.mk (right_some x2 19 (by omega) (by omega))
                    rw [← hy1] at G1
                    rw [← hy2] at G2
                    rw [← hy3] at G3
                    rw [← hy4] at G4
                    have HY := Aside0.mk (And.intro hy1 (And.intro hy2 (And.intro hy3 hy4)))
                    clear hxs9 hx9l hx2 hx7 hx15 hx16 hy1 hy2 hy3 hy4 hwl hTl hpm hi64 hi16 hi
                    go_wp2_with fail
                    have w2 : IntKind.i64.wrap (j2 : Int) = (j2 : Int) := by have := Hj2.out; exact IntWalk.i64_in _ ⟨by omega, by omega⟩
                    have q2 : (j2 : Int) < 64 := by have := Hj2.out; omega
                    have p2 : 0 ≤ (j2 : Int) := by omega
                    have e2 : (i : Int) - 2 = (j2 : Int) := by have := Hj2.out; have := HI16.out; omega
                    have w7 : IntKind.i64.wrap (j7 : Int) = (j7 : Int) := by have := Hj7.out; exact IntWalk.i64_in _ ⟨by omega, by omega⟩
                    have q7 : (j7 : Int) < 64 := by have := Hj7.out; omega
                    have p7 : 0 ≤ (j7 : Int) := by omega
                    have e7 : (i : Int) - 7 = (j7 : Int) := by have := Hj7.out; have := HI16.out; omega
                    have w15 : IntKind.i64.wrap (j15 : Int) = (j15 : Int) := by have := Hj15.out; exact IntWalk.i64_in _ ⟨by omega, by omega⟩
                    have q15 : (j15 : Int) < 64 := by have := Hj15.out; omega
                    have p15 : 0 ≤ (j15 : Int) := by omega
                    have e15 : (i : Int) - 15 = (j15 : Int) := by have := Hj15.out; have := HI16.out; omega
                    have w16 : IntKind.i64.wrap (j16 : Int) = (j16 : Int) := by have := Hj16.out; exact IntWalk.i64_in _ ⟨by omega, by omega⟩
                    have q16 : (j16 : Int) < 64 := by have := Hj16.out; omega
                    have p16 : 0 ≤ (j16 : Int) := by omega
                    have e16 : (i : Int) - 16 = (j16 : Int) := by have := Hj16.out; have := HI16.out; omega
                    go_quiet (fail)
                    go_wp2_with fail
                    replace HN := Aside0.mk (HN.out.drewN nq)
                    obtain ⟨W5, hW5⟩ : ∃ W5, W5 = wr.drewN nq := ⟨_, rfl⟩
                    rw [← hW5] at HN
                    rw [← hW5]
                    clear hW5 d2 d7 d15 d16 hf hcj
                    have d7 := HN.out.h8.cell j7 (by have := HXS9.out; have := Hj7.out; rw [HXS9.out, rws_length]; have := HI64.out; omega)
                    have d16 := HN.out.h8.cell j16 (by rw [HXS9.out, rws_length]; have := Hj16.out; have := HI64.out; omega)
                    have hcj := HN.out.h8.cell i (by rw [HXS9.out, rws_length]; exact HI64.out)
                    have hf := HN.out.h8.frozen i
                    rw [← HX.out.2.1] at d7
                    rw [← HX.out.2.2.2] at d16
                    go_region_held3 (fun w' => w'.cell? ⟨g8, j7, none⟩ = some (.int .u32 x7) ∧ w'.cell? ⟨g8, j16, none⟩ = some (.int .u32 x16)) (first | go_keep | exact ⟨cell_set_ne (by have := Hj7.out; omega) _ d7, cell_set_ne (by have := Hj16.out; omega) _ d16⟩) (first | (go_at_call 204; ((with_reducible refine (annalsref01_right.calls x15 7 y1 _ G1.out).mono ?_); rintro e w' ⟨rfl, ⟨m1, rfl⟩⟩)) | (go_at_call 204; ((with_reducible refine (annalsref01_right.calls x15 18 y2 _ G2.out).mono ?_); rintro e w' ⟨rfl, ⟨m2, rfl⟩⟩)) | (go_at_call 204; ((with_reducible refine (annalsref01_right.calls x2 17 y3 _ G3.out).mono ?_); rintro e w' ⟨rfl, ⟨m3, rfl⟩⟩)) | (go_at_call 204; ((with_reducible refine (annalsref01_right.calls x2 19 y4 _ G4.out).mono ?_); rintro e w' ⟨rfl, ⟨m4, rfl⟩⟩)))
                    go_wp2_with fail
                    obtain ⟨x, hx⟩ : ∃ x, x = IntKind.u32.wrap (IntKind.u32.wrap (IntKind.u32.wrap (x16 + Go.bits .xor .u32 (Go.bits .xor .u32 y1 y2) (x15 / 8)) + x7) + Go.bits .xor .u32 (Go.bits .xor .u32 y3 y4) (x2 / 1024)) := ⟨_, rfl⟩
                    rw [← hx]
                    have hxn : x = rnext xs9 i := by
                      have hX := HX.out
                      have hY := HY.out
                      unfold rnext
                      rw [← Hj15.out, ← Hj2.out, ← Hj16.out, ← Hj7.out, ← hX.1, ← hX.2.1, ← hX.2.2.1, ← hX.2.2.2]
                      simp only []
                      rw [← hY.1, ← hY.2.1, ← hY.2.2.1, ← hY.2.2.2, hx]
                      simp only [IntKind.wrap_u32]
                      omega
                    have he : rws T p (i + 1) = xs9.set i x := by
                      rw [hxn, HXS9.out]
                      simp only [rws]
                      rw [if_neg HI16.out]
                    obtain ⟨V, hV⟩ : ∃ a, a = rrounds T p S i := ⟨_, rfl⟩
                    have HVV := Aside0.mk hV
                    rw [← hV] at HN
                    replace HN : Aside0 (RefMem2 w ((W5.drewN (1 + m1 + m2 + m3 + m4)).setCell ⟨g8, i, none⟩ (.int .u32 x)) g3 g4 g8 g9 S.list (rws T p (i + 1)) V (.slice A5 T.length c5) T) := ⟨by rw [he]; exact (HN.out.drewN _).set8 i x⟩
                    clear hV he hx hxn d7 d16 hcj hf w2 q2 p2 e2 w7 q7 p7 e7 w15 q15 p15 e15 w16 q16 p16 e16
                    refine still_tail_at 8 (by kernel_rfl) (by kernel_rfl) (fun W hW => ?_)
                    replace HN : Aside0 (RefMem2 w W g3 g4 g8 g9 S.list (rws T p (i + 1)) V (.slice A5 T.length c5) T) := ⟨by rw [hW]; exact HN.out.drew⟩
                    clear hW
                    obtain ⟨c0, c1, c2, c3, c4, c5', c6, c7⟩ := IsSums.cells HN.out.h9
                    obtain ⟨ai, hai⟩ : ∃ a, a = shaAdded.getD i 0 := ⟨_, rfl⟩
                    obtain ⟨xi, hxi⟩ : ∃ a, a = (rws T p (i + 1)).getD i 0 := ⟨_, rfl⟩
                    have ca := HN.out.mem.h4.cell i (by have := HI64.out; show i < 64; omega)
                    have cx := HN.out.h8.cell i (by rw [rws_length]; exact HI64.out)
                    rw [← hai] at ca
                    rw [← hxi] at cx
                    have HAX := Aside0.mk (And.intro hai hxi)
                    clear hai hxi
                    simp only [List.take_succ_cons, List.take_zero, List.drop_succ_cons, List.drop_zero]
                    repeat still_step
                    refine wpStill_nil ?_
                    go_wp2_with fail
                    refine (round_calls2 V ((ai + xi) % 4294967296) _).mono ?_
                    rintro e3 w3 ⟨rfl, hB3⟩
                    replace HN : Aside0 (RefMem2 w w3 g3 g4 g8 g9 S.list (rws T p (i + 1)) V (.slice A5 T.length c5) T) := ⟨HN.out.below hB3⟩
                    clear hB3 c0 c1 c2 c3 c4 c5' c6 c7 ca cx
                    obtain ⟨V2, hV2⟩ : ∃ a, a = V.rround ((ai + xi) % 4294967296) := ⟨_, rfl⟩
                    rw [← hV2]
                    have HV2 := Aside0.mk hV2
                    clear hV2
                    obtain ⟨c0, c1, c2, c3, c4, c5', c6, c7⟩ := IsSums.cells HN.out.h9
                    have f0 := HN.out.h9.frozen 0
                    have f1 := HN.out.h9.frozen 1
                    have f2 := HN.out.h9.frozen 2
                    have f3 := HN.out.h9.frozen 3
                    have f4 := HN.out.h9.frozen 4
                    have f5 := HN.out.h9.frozen 5
                    have f6 := HN.out.h9.frozen 6
                    have f7 := HN.out.h9.frozen 7
                    go_wp2_with fail
                    have hN2 := HN.out.put9 V2
                    have hr : rrounds T p S (i + 1) = V2 := by rw [HV2.out, HAX.out.1, HAX.out.2, HVV.out]; rfl
                    refine ⟨⟨i + 1, by have := HI64.out; omega, by go_num, by rw [hr]; exact ⟨hN2⟩⟩, by have := HI64.out; simp only [intOf]; omega⟩
                · have hd : decide ((i : Int) < 64) = false := by simp; omega
                  have hie : i = 64 := by omega
                  clear hi hi64
                  obtain ⟨V, hV⟩ : ∃ a, a = rrounds T p S i := ⟨_, rfl⟩
                  rw [← hV] at HN
                  rw [hie] at hV
                  have HVV := Aside0.mk hV
                  obtain ⟨WS, hWS⟩ : ∃ a, a = rws T p i := ⟨_, rfl⟩
                  rw [← hWS] at HN
                  clear hV hWS hie
                  go_wp2_with fail
                  clear hd
                  go_loopw [117] (fun v117 wq => ∃ k : Nat, k ≤ 8 ∧ v117 = .int .i64 (k : Int) ∧ Aside0 (RefMem2 w wq g3 g4 g8 g9 (addW S.list V.list k) WS V (.slice A5 T.length c5) T)) (fun v117 _ => 8 - (intOf v117).toNat)
                  case atStart => exact ⟨0, by omega, rfl, HN⟩
                  case round =>
                    clear HN
                    obtain ⟨k, hk, rfl, HN⟩ := hrel
                    by_cases hk8 : k < 8
                    · have hd : decide ((k : Int) < 8) = true := by simp; omega
                      have HK8 := Aside0.mk hk8
                      have pk : 0 ≤ (k : Int) := by omega
                      have qk : (k : Int) < 8 := by omega
                      clear hk hk8
                      go_wp2_with fail
                      refine still_tail_at 8 (by kernel_rfl) (by kernel_rfl) (fun W hW => ?_)
                      replace HN : Aside0 (RefMem2 w W g3 g4 g8 g9 (addW S.list V.list k) WS V (.slice A5 T.length c5) T) := ⟨by rw [hW]; exact HN.out.drew⟩
                      clear hW
                      obtain ⟨x, hx⟩ : ∃ x, x = (addW S.list V.list k).getD k 0 := ⟨_, rfl⟩
                      obtain ⟨y, hy⟩ : ∃ y, y = V.list.getD k 0 := ⟨_, rfl⟩
                      have cx := HN.out.mem.h3.cell k (by rw [addW_length]; exact HK8.out)
                      have cy := HN.out.h9.cell k (by exact HK8.out)
                      have fx := HN.out.mem.h3.frozen k
                      rw [← hx] at cx
                      rw [← hy] at cy
                      have HXY := Aside0.mk (And.intro hx hy)
                      clear hx hy
                      simp only [List.take_succ_cons, List.take_zero, List.drop_succ_cons, List.drop_zero]
                      repeat still_step
                      refine wpStill_nil ?_
                      go_wp2_with fail
                      go_roundw
                      case measure => simp [intOf]; have := HK8.out; omega
                      case rel =>
                        refine ⟨k + 1, by have := HK8.out; omega, by go_num, ⟨?_⟩⟩
                        simp only [addW]
                        rw [← HXY.out.1, ← HXY.out.2]
                        exact HN.out.set3 k _
                    · have hd : decide ((k : Int) < 8) = false := by simp; omega
                      obtain rfl : k = 8 := by omega
                      clear hk hk8
                      have hsum : (rsums T (m + 1)).list = addW S.list V.list 8 := by
                        simp only [rsums]
                        rw [Sums.of_list _ (by rw [addW_length]; rfl), ← HS.out, ← HP.out, ← HVV.out]
                      have HSUM := Aside0.mk hsum
                      clear hsum
                      go_wp2_with fail
                      have hlt := HLT.out
                      have hpm := HP.out
                      go_roundw
                      case measure => simp only [intOf]; omega
                      case rel => exact ⟨m + 1, p + 64, by omega, ⟨by omega⟩, by go_num, by rw [HSUM.out]; exact ⟨HN.out.mem⟩, ⟨HN.out.txt⟩⟩
            · have hd : decide (p < T.length) = false := by have := HTL.out; have := HP.out; simp; omega
              have hmb : m = rblocks bs.length := by omega
              obtain ⟨S, hS⟩ : ∃ x, x = rsums T m := ⟨_, rfl⟩
              rw [← hS] at HM
              rw [hmb, HT.out] at hS
              have HS := Aside0.mk hS
              obtain ⟨c0, c1, c2, c3, c4, c5', c6, c7⟩ := IsSums.cells HM.out.h3
              clear hS hlt hm hmb
              go_wp2_with fail
              clear c0 c1 c2 c3 c4 c5' c6 c7 hd
              go_loopw [14, 130] (fun v14 v130 wq => ∃ k : Nat, k ≤ 8 ∧ v130 = .int .i64 (k : Int) ∧ Aside0 (Kd.R (Kd.int .u8) 5 wq w.heap.size (fun _ => True) v14 (rout S.list k)) ∧ Aside0 (Below w.heap.size w wq)) (fun _ v130 _ => 8 - (intOf v130).toNat)
              case atStart => exact ⟨0, by omega, rfl, ⟨Kd.R_nil _ _ _ _ _⟩, ⟨HM.out.bel⟩⟩
              case round =>
                clear HM HO
                obtain ⟨k, hk, rfl, HO, HB⟩ := hrel
                obtain ⟨A6, c6, rfl⟩ := Kd.R_slice HO.out
                obtain ⟨ys, hys⟩ : ∃ ys, ys = rout S.list k := ⟨_, rfl⟩
                have hyl : ys.length = 4 * k := by rw [hys]; exact rout_length _ _
                rw [← hys] at HO
                rw [← hys]
                have HYS := Aside0.mk hys
                have HYL := Aside0.mk hyl
                clear hys hyl
                by_cases hk8 : k < 8
                · have hd : decide ((k : Int) < 8) = true := by simp; omega
                  have HK8 := Aside0.mk hk8
                  have qk : (k : Int) < 8 := by omega
                  have hix := words8_index S k hk8
                  obtain ⟨x, hx⟩ : ∃ x, x = S.list.getD k 0 := ⟨_, rfl⟩
                  rw [← hx] at hix
                  have HX := Aside0.mk hx
                  clear hx hk hk8
                  go_wp2_with (first | ((with_reducible refine gate_builtin (b := .append) (xs := #[.tmp 133, .tmp 145]) rfl ?_); go_must (at_builtin; refine Kd.R_append_rows (Kd.int .u8) (w0 := w) w.heap.size rfl (.tmp 133) (.tmp 145) 33 5 (.int .u8 0) 1 rfl Tryd.underlying33 info5 rfl (by decide) (by omega) (.slice A6 ys.length c6) ys [x / 16777216 % 256, x / 65536 % 256, x / 256 % 256, x % 256] (some ⟨wr.heap.size, 0, none⟩) 4 4 (fun _ => True) (fun _ => False) rfl rfl ?aO ?aR (fun _ _ h => h) (fun _ h => h.elim) ?aF ?aB ?aS ?aL ?_; (case aR => exact IsBytes.C (xs := [x / 16777216 % 256, x / 65536 % 256, x / 256 % 256, x % 256]) (o := 0) (n := 4) (heap_alloc_new wr _) (by simp) (by decide)); (case aB => exact below_alloc HB.out _); (case aF => exact (fun _ _ => trivial)); (case aO => exact Kd.R_alloc HO.out _); (case aS => have := HB.out.size; simp; omega); (case aL => have := HYL.out; have := HK8.out; omega); intro v3 w3 ho hb3 hg hat; have HO3 := Aside0.mk ho; have HB3 := Aside0.mk hb3; clear ho hb3 hg hat)))
                  have hk8 := HK8.out
                  have he : ys ++ [x / 16777216 % 256, x / 65536 % 256, x / 256 % 256, x % 256] = rout S.list (k + 1) := by
                    simp only [rout]
                    rw [← HYS.out, ← HX.out]
                  rw [he] at HO3
                  go_roundw
                  case measure => simp [intOf]; omega
                  case rel => exact ⟨k + 1, by omega, by go_num, HO3, HB3⟩
                · have hd : decide ((k : Int) < 8) = false := by simp; omega
                  obtain rfl : k = 8 := by omega
                  go_wp2_with fail
                  go_ret
                  have hfin : ys = refSum bs := by rw [HYS.out, HS.out]; rfl
                  rw [← hfin]
                  exact ⟨_, rfl, HO.out, HB.out⟩

end Go.Proofs.YtbedgjjiinhpkaaDoor.P

-- RefD
set_option linter.unusedVariables false
set_option linter.unusedSimpArgs false
namespace Go.Proofs.YtbedgjjiinhpkaaDoor.P
open Go.RowKit Go.Proofs.YtbedgjjiinhpkaaDoorW.PrintWords Go.Proofs.YtbedgjjiinhpkaaDoorW.PrintLast Go.Proofs.YtbedgjjiinhpkaaDoorW.PrintMore

/-- What the reference's sum answers. -/
def annalsref01_Sum.f (l0 : List Int) : Option (List Int) := if l0.length ≤ 140737488355000 then some (refSum l0) else none
theorem annalsref01_Sum.calls (A0 : Option Addr) (c0 : Nat) (l0 : List Int) (r : List Int) (w : World) (hr0 : Kd.C (Kd.int .u8) w A0 l0.length l0) (hc0 : l0.length ≤ c0) (h : annalsref01_Sum.f l0 = some r) :
    Calls Tryd.prog 187 #[.slice A0 l0.length c0] w fun e w' => ∃ v0_ : Value, e = .returned (v0_) ∧ Kd.R (Kd.int .u8) 5 w' w.heap.size (fun _ => True) v0_ r ∧ Below w.heap.size w w' := by
  unfold annalsref01_Sum.f at h
  split at h
  case isFalse => cases h
  case isTrue hb =>
    obtain rfl := Option.some.inj h
    exact rsum_any A0 c0 l0 w hr0 hc0 hb

end Go.Proofs.YtbedgjjiinhpkaaDoor.P
