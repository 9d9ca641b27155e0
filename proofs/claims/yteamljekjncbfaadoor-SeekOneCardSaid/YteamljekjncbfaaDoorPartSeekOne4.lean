/- Lemmas of this claim, part 4. -/
import Derived.Test.YteamljekjncbfaaDoorPartSeekOne3
import Derived.Laws.CopyOwn
import Derived.Test.YteamljekjncbfaaDoorPartSeekOne2
section
set_option linter.unusedVariables false
set_option linter.unusedSimpArgs false
namespace Go.Proofs.YteamljekjncbfaaDoor.P
open Go.RowKit Go.Proofs.YteamljekjncbfaaDoorW.PrintWords Go.Proofs.YteamljekjncbfaaDoorW.PrintLast Go.Proofs.YteamljekjncbfaaDoorW.PrintMore
def Sums.of (l : List Int) : Sums := ⟨l.getD 0 0, l.getD 1 0, l.getD 2 0, l.getD 3 0, l.getD 4 0, l.getD 5 0, l.getD 6 0, l.getD 7 0⟩
theorem Sums.of_list (l : List Int) (h : l.length = 8) : (Sums.of l).list = l := by
  match l, h with
  | [a, b, c, d, e, f, g, h], _ => rfl
theorem Sums.take_length (s : Sums) (bs : List Int) : (s.take bs).length = 8 := by
  unfold Sums.take
  rw [addW_length]
  rfl
def Sums.blocks (s : Sums) (bs : List Int) : Nat → Sums
  | 0 => s
  | i + 1 => Sums.of ((Sums.blocks s bs i).take (bs.drop (64 * i)))
def Sums.first : Sums := Sums.of shaFirst
def tailBlocks (n : Nat) : Nat := if n % 64 + 9 > 64 then 2 else 1
def nblocks (n : Nat) : Nat := n / 64 + tailBlocks n
attribute [local go_sem] max2_int min2_int max_two min_two in
set_option maxHeartbeats 4000000 in
set_option maxRecDepth 100000 in
theorem blocks_calls (n : Nat) (hn : n ≤ 140737488355328) (w : World) :
    Calls Tryd.prog 116 #[.int .i64 (n : Int)] w fun e w' => e = .returned (.int .i64 (nblocks n : Int)) ∧ Below w.heap.size w w' := by
  have HB := Aside0.mk (Below.refl w.heap.size w)
  obtain ⟨j, hj⟩ : ∃ j : Int, j = (n : Int) := ⟨_, rfl⟩
  have hj0 : ¬ j < 0 := by omega
  have hmx : (if j < 0 then 0 else j) = j := if_neg hj0
  have hjm : j ≤ 140737488355328 := by omega
  have hj1 : 0 ≤ j := by omega
  rw [← hj]
  have hw0 : wrap64 (j / 64) = j / 64 := by unfold wrap64; omega
  have hw1 : wrap64 (j / 64 + 1) = j / 64 + 1 := by unfold wrap64; omega
  have hw2 : wrap64 (j / 64 + 1 + 1) = j / 64 + 1 + 1 := by unfold wrap64; omega
  by_cases c4 : j % 64 + 1 + 8 > 64
  · have c4b0 : decide (64 < j % 64 + 1 + 8) = true := decide_eq_true c4
    have hr : j / 64 + 1 + 1 = (nblocks n : Int) := by unfold nblocks tailBlocks; rw [if_pos (by omega)]; omega
    have HR := Aside0.mk hr
    clear hr c4 hj
    go_enter Tryd.func116, Tryd.ntmps116
    go_wp2
    go_ret
    exact ⟨by rw [← HR.out]; rfl, by repeat (first | (with_reducible first | exact HB.out | apply below_alloc | apply pw_below_drewN | apply below_drew1) | exact HB.out)⟩
  · have c4b0 : decide (64 < j % 64 + 1 + 8) = false := decide_eq_false c4
    have hr : j / 64 + 1 = (nblocks n : Int) := by unfold nblocks tailBlocks; rw [if_neg (by omega)]; omega
    have HR := Aside0.mk hr
    clear hr c4 hj
    go_enter Tryd.func116, Tryd.ntmps116
    go_wp2
    go_ret
    exact ⟨by rw [← HR.out]; rfl, by repeat (first | (with_reducible first | exact HB.out | apply below_alloc | apply pw_below_drewN | apply below_drew1) | exact HB.out)⟩
def IsBytes (w : World) (g t : Nat) (xs : List Int) : Prop := w.heap[g]? = some (.cells (xs.map (Value.int .u8)).toArray t (0, 0))
theorem IsBytes.cell {w : World} {g t : Nat} {xs : List Int} (h : IsBytes w g t xs) (i : Nat) (hi : i < xs.length) : w.cell? ⟨g, i, none⟩ = some (.int .u8 (xs.getD i 0)) := by
  refine (blk_cell h i).trans ?_
  rw [List.getElem?_toArray, List.getElem?_map, List.getElem?_eq_getElem hi, List.getD_eq_getElem?_getD, List.getElem?_eq_getElem hi]
  rfl
theorem IsBytes.frozen {w : World} {g t : Nat} {xs : List Int} (h : IsBytes w g t xs) (i : Nat) : w.frozen? ⟨g, i, none⟩ = false := blk_frozen h i
theorem IsBytes.set {w : World} {g t : Nat} {xs : List Int} (h : IsBytes w g t xs) (i : Nat) (x : Int) : IsBytes (w.setCell ⟨g, i, none⟩ (.int .u8 x)) g t (xs.set i x) := by
  unfold IsBytes
  have e : ((xs.set i x).map (Value.int .u8)).toArray = ((xs.map (Value.int .u8)).toArray).setIfInBounds i (.int .u8 x) := by rw [List.map_set]; simp
  rw [e]
  exact blk_set h i _
theorem IsBytes.C {w : World} {g t o n : Nat} {xs : List Int} (h : IsBytes w g t xs) (hn : o + n ≤ xs.length) (hm : n ≤ 9223372036854775807) : Kd.C (Kd.int .u8) w (some ⟨g, o, none⟩) n ((xs.drop o).take n) := by
  refine Kd.C_of_reads (h1 := fun _ => rfl) (d := 0) ⟨by rw [List.length_take, List.length_drop]; omega, hm, fun _ => ⟨_, rfl, fun j hj => ?_⟩⟩
  have := h.cell (o + j) (by omega)
  rw [show (Addr.add ⟨g, o, none⟩ j) = ⟨g, o + j, none⟩ from by simp [Addr.add]]
  rw [this]
  simp [List.getElem?_take, hj]
theorem IsBytes.R {w : World} {g e n base : Nat} {xs : List Int} (h : IsBytes w g e xs) (hb : base ≤ g) (hn : xs.length = n) (hm : n ≤ maxLen) : Kd.R (Kd.int .u8) e w base (fun _ => True) (.slice (some ⟨g, 0, none⟩) n n) xs := by
  subst hn
  refine Kd.R_of_own ⟨by simp [encs_length], .inr ⟨g, xs.length, _, rfl, hb, h, Nat.le_refl _, hm, by simp, by simp [encs, List.take_of_length_le]⟩⟩ (fun _ _ => trivial)
theorem IsBytes.lt {w : World} {g t : Nat} {xs : List Int} (h : IsBytes w g t xs) : g < w.heap.size := by
  unfold IsBytes at h
  obtain ⟨hl, -⟩ := Array.getElem?_eq_some_iff.1 h
  exact hl
theorem IsBytes.below {w w1 : World} {g t B : Nat} {xs : List Int} (h : IsBytes w g t xs) (hb : Below B w w1) (hg : g < B) : IsBytes w1 g t xs := (hb.block g hg).trans h
theorem IsWords.lt {w : World} {g t : Nat} {xs : List Int} (h : IsWords w g t xs) : g < w.heap.size := by
  unfold IsWords at h
  obtain ⟨hl, -⟩ := Array.getElem?_eq_some_iff.1 h
  exact hl
theorem IsWords.below {w w1 : World} {g t B : Nat} {xs : List Int} (h : IsWords w g t xs) (hb : Below B w w1) (hg : g < B) : IsWords w1 g t xs := (hb.block g hg).trans h
theorem copy_src {w : World} {A : Option Addr} {n : Nat} {xs : List Int} (h : Kd.C (Kd.int .u8) w A n xs) (g : Nat) :
    0 < (xs.map (Value.int .u8)).length → some (⟨g, 0, none⟩ : Addr) = some ⟨g, 0, none⟩ ∧ ∃ ad, A = some ad ∧ ∀ j v, (xs.map (Value.int .u8))[j]? = some v → w.cell? (ad.add j) = some v := by
  intro hp
  have hr := Kd.reads_of_C (d := 0) h
  rw [List.length_map] at hp
  obtain ⟨ad, e, hc⟩ := hr.2.2 (by have := hr.1; omega)
  refine ⟨rfl, ad, e, fun j v hj => ?_⟩
  rw [List.getElem?_map] at hj
  obtain ⟨x, hx, rfl⟩ := Option.map_eq_some_iff.1 hj
  obtain ⟨hl, -⟩ := List.getElem?_eq_some_iff.1 hx
  rw [hc j (by have := hr.1; omega)]
  simp [hx]
theorem IsBytes.of_splice {w : World} {g t n : Nat} {xs : List Int} (h : w.heap[g]? = some (.cells (splice (List.replicate n (Value.int .u8 0)) 0 (xs.map (Value.int .u8))).toArray t (0, 0))) : IsBytes w g t (xs ++ List.replicate (n - xs.length) 0) := by
  unfold IsBytes
  rw [h]
  simp [splice]
theorem pad_get (xs : List Int) (n : Nat) (h : xs.length < n) : (xs ++ List.replicate (n - xs.length) (0 : Int)).getD xs.length 0 = 0 := by
  rw [List.getD_eq_getElem?_getD, List.getElem?_append_right (Nat.le_refl _), Nat.sub_self, List.getElem?_replicate, if_pos (by omega)]
  rfl
def tail0 (rest : List Int) : List Int := (rest ++ List.replicate (128 - rest.length) 0).set rest.length 128
def tailLen (m : Nat) : Nat → Nat → Nat → List Int → List Int
  | 0, _, _, ys => ys
  | k + 1, x, i, ys => if 0 < x then tailLen m k (x / 256) (i + 1) (ys.set (m - i) ((x % 256 : Nat) : Int)) else ys
def tailSize (n : Nat) : Nat := 64 * tailBlocks n
def tailOf (bs : List Int) : List Int := tailLen (tailSize bs.length) 8 (bs.length * 8) 1 (tail0 (bs.drop (64 * (bs.length / 64))))
def wordByte (ws : List Int) (i : Nat) : Int := ws.getD (i / 4) 0 / 2 ^ (8 * (3 - i % 4)) % 256
theorem wordByte_0 (ws : List Int) (i : Nat) (h : i % 4 = 0) : wordByte ws i = ws[i / 4]?.getD 0 / 16777216 % 256 := by unfold wordByte; rw [h, List.getD_eq_getElem?_getD]; rfl
theorem wordByte_1 (ws : List Int) (i : Nat) (h : i % 4 = 1) : wordByte ws i = ws[i / 4]?.getD 0 / 65536 % 256 := by unfold wordByte; rw [h, List.getD_eq_getElem?_getD]; rfl
theorem wordByte_2 (ws : List Int) (i : Nat) (h : i % 4 = 2) : wordByte ws i = ws[i / 4]?.getD 0 / 256 % 256 := by unfold wordByte; rw [h, List.getD_eq_getElem?_getD]; rfl
theorem wordByte_3 (ws : List Int) (i : Nat) (h : i % 4 = 3) : wordByte ws i = ws[i / 4]?.getD 0 % 256 := by unfold wordByte; rw [h, List.getD_eq_getElem?_getD, show (2 : Int) ^ (8 * (3 - 3)) = 1 from rfl, Int.ediv_one]
def outB (ws : List Int) : Nat → List Int
  | 0 => List.replicate 32 0
  | i + 1 => (outB ws i).set i (wordByte ws i)
theorem outB_length (ws : List Int) (k : Nat) : (outB ws k).length = 32 := by
  induction k with
  | zero => rfl
  | succ k ih => simp [outB, ih]
def shaSum (bs : List Int) : List Int :=
  outB (Sums.blocks (Sums.blocks Sums.first bs (bs.length / 64)) ((tailOf bs).take (tailSize bs.length)) (tailBlocks bs.length)).list 32
set_option maxHeartbeats 4000000 in
set_option maxRecDepth 100000 in
theorem sum_any (A0 : Option Addr) (cap : Nat) (bs : List Int) (w : World) (hr : Kd.C (Kd.int .u8) w A0 bs.length bs) (hc : bs.length ≤ cap) (hb : bs.length ≤ 140737488355328) (hGS : GlobS w) :
    Calls Tryd.prog 109 #[.slice A0 bs.length cap] w fun e w' => ∃ v0_, e = .returned v0_ ∧ Kd.R (Kd.int .u8) 5 w' w.heap.size (fun _ => True) v0_ (shaSum bs) ∧ Below w.heap.size w w' := by
  obtain ⟨k0, k1, k2, k3, k4, k5, k6, k7⟩ : w.cell? ⟨2, 0, none⟩ = some (.int .u32 1779033703) ∧ w.cell? ⟨2, 1, none⟩ = some (.int .u32 3144134277) ∧ w.cell? ⟨2, 2, none⟩ = some (.int .u32 1013904242) ∧ w.cell? ⟨2, 3, none⟩ = some (.int .u32 2773480762) ∧ w.cell? ⟨2, 4, none⟩ = some (.int .u32 1359893119) ∧ w.cell? ⟨2, 5, none⟩ = some (.int .u32 2600822924) ∧ w.cell? ⟨2, 6, none⟩ = some (.int .u32 528734635) ∧ w.cell? ⟨2, 7, none⟩ = some (.int .u32 1541459225) :=
    ⟨hGS.1 0 (by omega), hGS.1 1 (by omega), hGS.1 2 (by omega), hGS.1 3 (by omega), hGS.1 4 (by omega), hGS.1 5 (by omega), hGS.1 6 (by omega), hGS.1 7 (by omega)⟩
  have HR := Aside0.mk hr
  have HC := Aside0.mk hc
  have HGS := Aside0.mk hGS
  have HBB := Aside0.mk hb
  clear hr hc hGS
  go_enter Tryd.func109, Tryd.ntmps109
  go_wp2_with fail
  clear k0 k1 k2 k3 k4 k5 k6 k7
  obtain ⟨gS, hgS⟩ : ∃ g, g = w.heap.size := ⟨_, rfl⟩
  rw [← hgS]
  have HGg := Aside0.mk hgS
  clear hgS
  go_loopw [0] (fun v0 wr => ∃ (i : Nat) (A : Option Addr) (c : Nat), 64 * i ≤ bs.length ∧ v0 = .slice A (bs.drop (64 * i)).length c ∧ Aside0 ((bs.drop (64 * i)).length ≤ c) ∧ Aside0 (Kd.C (Kd.int .u8) w A (bs.drop (64 * i)).length (bs.drop (64 * i))) ∧ Aside0 (IsWords wr gS 141 (Sums.blocks Sums.first bs i).list) ∧ Aside0 (Below w.heap.size w wr)) (fun v0 _ => match v0 with | .slice _ n _ => n | _ => 0)
  case atStart => exact ⟨0, A0, cap, by omega, rfl, HC, HR, ⟨by rw [HGg.out]; exact heap_alloc_new w _⟩, ⟨below_alloc (Below.refl _ _) _⟩⟩
  case round =>
    obtain ⟨i, A, c, hi, rfl, HCi, HRi, HI, HB⟩ := hrel
    obtain ⟨rs, hrs⟩ : ∃ rs, rs = bs.drop (64 * i) := ⟨_, rfl⟩
    have hrl : rs.length = bs.length - 64 * i := by rw [hrs, List.length_drop]
    rw [← hrs] at HCi HRi
    rw [← hrs]
    have HRS := Aside0.mk hrs
    have HRL := Aside0.mk hrl
    clear hrs
    by_cases hlt : 64 ≤ rs.length
    · have hd : decide ((64 : Int) ≤ (rs.length : Int)) = true := by simp; omega
      have HLT := Aside0.mk hlt
      have hle : rs.length < 9223372036854775807 := by omega
      clear hrl
      obtain ⟨i0, hi0, _, hsz0, _⟩ := info_parts info5
      obtain ⟨A2, hcut, hA2, hC2⟩ := print_drop_of (P := Tryd.prog) (Value.int .u8) 0 33 5 .i64 Tryd.underlying33 hi0 hsz0 A c rs 64 (by omega) (by omega) HCi.out
      have HA2 := Aside0.mk (Kd.C_of_reads (h1 := fun _ => rfl) (hA2 _ (Kd.reads_of_C HRi.out)))
      have HC2 := Aside0.mk hC2
      clear hA2 hC2 hi0 hsz0
      go_wp2_with fail
      refine (take_calls gS _ A c rs w _ HI.out (by rw [HGg.out]; exact Nat.le_refl _) (Kd.C_below HRi.out HB.out) HCi.out hlt hle HB.out HGS.out).mono ?_
      rintro e2 w2 ⟨rfl, hI2, hB2, hK2⟩
      have HI2 := Aside0.mk hI2
      have HB2 := Aside0.mk hB2
      clear hI2 hB2 hK2 HI HB
      go_wp2_with fail
      have hdr : rs.drop 64 = bs.drop (64 * (i + 1)) := by rw [HRS.out, List.drop_drop]; congr 1
      have hln : (bs.drop (64 * (i + 1))).length = rs.length - 64 := by rw [← hdr, List.length_drop]
      have hrl := HRL.out
      refine ⟨⟨i + 1, A2, c - 64, by omega, by rw [hln], ?_, ?_, ?_, HB2⟩, ?_⟩
      · exact ⟨by rw [← hdr]; exact HC2.out⟩
      · exact ⟨by rw [← hdr]; exact HA2.out⟩
      · exact ⟨by show IsWords w2 gS 141 (Sums.of ((Sums.blocks Sums.first bs i).take (bs.drop (64 * i)))).list; rw [Sums.of_list _ (Sums.take_length _ _), ← HRS.out]; exact HI2.out⟩
      · show rs.length - 64 < rs.length; omega
    · have hd : decide ((64 : Int) ≤ (rs.length : Int)) = false := by simp; omega
      have HLT := Aside0.mk hlt
      clear hrl
      have hl64 : rs.length < 64 := by omega
      obtain ⟨W1, hW1⟩ : ∃ W1, W1 = wr.alloc (Obj.cells Tryd.zeroCells143 143) := ⟨_, rfl⟩
      have HTAIL : W1.heap[wr.heap.size]? = some (.cells (List.replicate 128 (Value.int .u8 0)).toArray 143 (0, 0)) := by rw [hW1]; exact heap_alloc_new wr _
      have hBW : Below wr.heap.size wr W1 := by rw [hW1]; exact below_alloc (Below.refl _ _) _
      have hcs := copy_src (Kd.C_below (Kd.C_below HRi.out HB.out) hBW) wr.heap.size
      go_wp2_with (refine wpList_copy_splice rfl (.tmp 21) (.tmp 22) 33 33 rfl 5 Tryd.underlying33 (by kernel_rfl) (some ⟨wr.heap.size, 0, none⟩) A 128 128 rs.length c rfl rfl wr.heap.size 0 (List.replicate 128 (.int .u8 0)) 143 (by rw [← hW1]; exact HTAIL) (rs.map (Value.int .u8)) (by rw [List.length_map]; exact (Nat.min_eq_left (by omega)).symm) (by rw [← hW1]; exact hcs) (by simp; omega) (by simp [Value.oneCell']) wr.heap.size _ (Below.refl _ _) (Nat.le_refl _) ?_; intro w2 HG2 hB2; have hTB := IsBytes.of_splice HG2.out; have hc2 := hTB.cell rs.length (by simp; omega); have hf2 := hTB.frozen rs.length; rw [pad_get rs 128 (by omega)] at hc2)
      refine (blocks_calls bs.length HBB.out _).mono ?_
      rintro e3 w3 ⟨rfl, hB3⟩
      have hT3 : IsBytes w3 wr.heap.size 143 (tail0 rs) := (hTB.set rs.length 128).below hB3 (by have := hTB.lt; simpa using this)
      rw [← hW1] at hB2
      have hB4 : Below wr.heap.size wr w3 := ((hBW.trans hB2).setCell (p := ⟨wr.heap.size, rs.length, none⟩) (Nat.le_refl _) _).trans (hB3.mono (by have := hTB.lt; simpa using Nat.le_of_lt this))
      have HI3 : Aside0 (IsWords w3 gS 141 (Sums.blocks Sums.first bs i).list) := ⟨HI.out.below hB4 HI.out.lt⟩
      have HB3 : Aside0 (Below w.heap.size w w3) := ⟨HB.out.trans (hB4.mono HB.out.size)⟩
      obtain ⟨tg, htg⟩ : ∃ tg, tg = wr.heap.size := ⟨_, rfl⟩
      have hgt : gS < tg := by rw [htg]; exact HI.out.lt
      have hwt : w.heap.size ≤ tg := by rw [htg]; exact HB.out.size
      rw [← htg] at hT3
      rw [← htg]
      have HT3 := Aside0.mk hT3
      obtain ⟨d, hd2⟩ : ∃ d, d = tailBlocks bs.length := ⟨_, rfl⟩
      have hd12 : d = 1 ∨ d = 2 := by rw [hd2]; unfold tailBlocks; split <;> simp
      obtain ⟨m, hm⟩ : ∃ m, m = 64 * d := ⟨_, rfl⟩
      have hmt : m = tailSize bs.length := by rw [hm, hd2]; rfl
      obtain ⟨nb, hnb⟩ : ∃ nb : Int, nb = (nblocks bs.length : Int) := ⟨_, rfl⟩
      have hnq : nb = (bs.length : Int) / 64 + (d : Int) := by rw [hnb, hd2]; unfold nblocks; omega
      rw [← hnb]
      have e1 : nb - (bs.length : Int) / 64 = (d : Int) := by omega
      have e2 : (64 : Int) * (d : Int) = (m : Int) := by omega
      have e3 : IntKind.i64.wrap (d : Int) = (d : Int) := (by rw [IntKind.wrap_i64]; omega)
      have e4 : IntKind.i64.wrap (m : Int) = (m : Int) := (by rw [IntKind.wrap_i64]; omega)
      have e5 : (m : Int) ≤ 128 := by omega
      have e6 : (0 : Int) ≤ (m : Int) := by omega
      have HDT := Aside0.mk hd2
      have HM := Aside0.mk hm
      have HMT := Aside0.mk hmt
      have HD := Aside0.mk hd12
      have HHG := Aside0.mk hgt
      have HHW := Aside0.mk hwt
      clear hT3 htg hB4 hB3 hTB hc2 hf2 hB2 HG2 hBW hcs HTAIL hW1 hm hmt hd12 hnb hnq hd2 hgt hwt hd
      go_wp2_with fail
      obtain ⟨T, hT⟩ : ∃ T, T = tailLen m 8 (bs.length * 8) 1 (tail0 rs) := ⟨_, rfl⟩
      have HTT := Aside0.mk hT
      have ht0 : (tail0 rs).length = 128 := by unfold tail0; rw [List.length_set, List.length_append, List.length_replicate]; omega
      go_loopw [7, 8] (fun v7 v8 wq => ∃ (f x q : Nat) (ys : List Int), v7 = .int .i64 (q : Int) ∧ v8 = .int .u64 (x : Int) ∧ Aside0 (x < 256 ^ f) ∧ Aside0 (q + f = 9 ∧ 1 ≤ q ∧ ys.length = 128) ∧ Aside0 (tailLen m f x q ys = T) ∧ Aside0 (IsBytes wq tg 143 ys) ∧ Aside0 (IsWords wq gS 141 (Sums.blocks Sums.first bs i).list) ∧ Aside0 (Below w.heap.size w wq)) (fun _ v8 _ => (intOf v8).toNat)
      case atStart => exact ⟨8, bs.length * 8, 1, tail0 rs, by go_num, by go_num, ⟨by have := HBB.out; omega⟩, ⟨by omega, by omega, ht0⟩, ⟨HTT.out.symm⟩, HT3, HI3, HB3⟩
      case round =>
        obtain ⟨f, x, q, ys, rfl, rfl, HX, HQ, HTl, HTq, HIq, HBq⟩ := hrel
        clear HT3 HI3 HB3 ht0 hT
        by_cases hx0 : 0 < x
        · have hd : decide ((0 : Int) < (x : Int)) = true := by simp; omega
          obtain ⟨f, rfl⟩ : ∃ f', f = f' + 1 := by
            cases f with
            | zero => have := HX.out; omega
            | succ f => exact ⟨f, rfl⟩
          have hq9 := HQ.out
          obtain ⟨mq, hmq⟩ : ∃ mq, mq = m - q := ⟨_, rfl⟩
          have hmv := HM.out
          have hdv := HD.out
          have g1 : (m : Int) - (q : Int) = (mq : Int) := by omega
          have g2 : IntKind.i64.wrap (mq : Int) = (mq : Int) := (by rw [IntKind.wrap_i64]; omega)
          have g3 : (mq : Int) < (m : Int) := by omega
          have hq7 : (q : Int) < 10 := by omega
          have hcq := HTq.out.cell mq (by omega)
          have hfq := HTq.out.frozen mq
          have HMQ := Aside0.mk hmq
          clear hmq hq9 hmv hdv
          go_wp2_with fail
          have hq9 := HQ.out
          have hxf := HX.out
          have e : (x : Int) % 256 = ((x % 256 : Nat) : Int) := by omega
          refine ⟨⟨f, x / 256, q + 1, ys.set mq ((x % 256 : Nat) : Int), by go_num, by go_num, ⟨by rw [Nat.pow_succ] at hxf; omega⟩, ⟨by omega, by omega, by rw [List.length_set]; omega⟩, ⟨?_⟩, ⟨?_⟩, ⟨?_⟩, ⟨HBq.out.setCell (by show w.heap.size ≤ tg; exact HHW.out) _⟩⟩, ?_⟩
          · rw [← HTl.out, tailLen, if_pos hx0, ← HMQ.out]
          · rw [e]; exact HTq.out.set mq _
          · exact (KeepBut.refl _ tg none |>.set_ _ _).blk HIq.out (by have := HHG.out; omega) (by simp)
          · simp only [intOf]; omega
        · have hd : decide ((0 : Int) < (x : Int)) = false := by simp; omega
          obtain rfl : x = 0 := by omega
          have hTy : ys = T := by rw [← HTl.out]; cases f <;> rfl
          subst hTy
          clear HTl HX
          have HL := Aside0.mk HQ.out.2.2
          clear HQ
          go_wp2_with fail
          have hmd := HM.out
          have hd12 := HD.out
          go_loopw [6] (fun v6 wz => ∃ (k n c : Nat) (A : Option Addr), k ≤ d ∧ v6 = .slice A n c ∧ n + 64 * k = m ∧ n ≤ c ∧ (k < d → A = some ⟨tg, 64 * k, none⟩) ∧ Aside0 (IsBytes wz tg 143 ys) ∧ Aside0 (IsWords wz gS 141 (Sums.blocks (Sums.blocks Sums.first bs i) (ys.take m) k).list) ∧ Aside0 (Below w.heap.size w wz)) (fun v6 _ => match v6 with | .slice _ n _ => n | _ => 0)
          case atStart => exact ⟨0, m, 128, _, by omega, rfl, by omega, by omega, fun _ => rfl, HTq, HIq, HBq⟩
          case round =>
            obtain ⟨k, n, c, A, hk, rfl, hnm, hnc, hA, HTz, HIz, HBz⟩ := hrel
            clear HTq HIq HBq
            by_cases hkd : k < d
            · obtain rfl := hA hkd
              clear hA
              obtain ⟨us, hus⟩ : ∃ us, us = (ys.drop (64 * k)).take n := ⟨_, rfl⟩
              have hyl := HL.out
              have hul : us.length = n := by rw [hus, List.length_take, List.length_drop]; omega
              have hCu := HTz.out.C (o := 64 * k) (n := n) (by omega) (by omega)
              rw [← hus] at hCu
              have HCU := Aside0.mk hCu
              have HUS := Aside0.mk hus
              clear hCu hus
              obtain rfl := hul
              have hd : decide ((0 : Int) < (us.length : Int)) = true := by simp; omega
              have hu64 : (64 : Int) ≤ (us.length : Int) := by omega
              have hu65 : (us.length : Int) ≤ (c : Int) := by omega
              have hgS := HHG.out
              go_wp2_with fail
              refine (take_calls gS _ (some ⟨tg, 64 * k, none⟩) c us w _ HIz.out (by rw [HGg.out]; exact Nat.le_refl _) HCU.out hnc (by omega) (by omega) HBz.out HGS.out).mono ?_
              rintro e2 w2 ⟨rfl, hI2, hB2, hK2⟩
              have HI2 := Aside0.mk hI2
              have HB2 := Aside0.mk hB2
              have HT2 := Aside0.mk (show IsBytes w2 tg 143 ys from hK2.blk HTz.out (by omega) (by simp))
              clear hI2 hB2 hK2 HIz HBz HTz
              go_wp2_with fail
              have hus2 := HUS.out
              refine ⟨⟨k + 1, us.length - 64, c - 64, _, by omega, rfl, by omega, by omega, fun hk1 => ?_, HT2, ⟨?_⟩, HB2⟩, ?_⟩
              · rw [if_neg (by omega), show 64 * (k + 1) = 64 * k + 64 from by omega]
              · show IsWords _ gS 141 (Sums.of ((Sums.blocks (Sums.blocks Sums.first bs i) (ys.take m) k).take ((ys.take m).drop (64 * k)))).list
                rw [Sums.of_list _ (Sums.take_length _ _), List.drop_take, show m - 64 * k = us.length from by omega, ← hus2]
                exact HI2.out
              · show us.length - 64 < us.length
                omega
            · obtain rfl : k = d := by omega
              obtain rfl : n = 0 := by omega
              clear hA
              have hd : decide ((0 : Int) < ((0 : Nat) : Int)) = false := by decide
              clear hd
              have hmk : ∀ W : World, (Instr.makeSlice 33 (.int .i64 32) (.int .i64 32)).run Tryd.prog W = .ok (.slice (some ⟨W.heap.size, 0, none⟩) 32 32) (W.alloc (Obj.cells (((List.replicate 32 (0 : Int)).map (Value.int .u8)).toArray) 5 (0, 0))) := fun _ => by kernel_rfl
              have hd : decide ((0 : Int) < ((0 : Nat) : Int)) = false := by decide
              go_wp2_with fail
              obtain ⟨ss, hss⟩ : ∃ ss, ss = Sums.blocks (Sums.blocks Sums.first bs i) (ys.take m) k := ⟨_, rfl⟩
              have HSS := Aside0.mk hss
              rw [← hss] at HIz
              obtain ⟨og, hog⟩ : ∃ og, og = wr.heap.size := ⟨_, rfl⟩
              have hog2 : og = wr.heap.size := hog
              rw [← hog]
              have HOG : w.heap.size ≤ og := by rw [hog]; exact HBz.out.size
              have hgo : gS < og := by rw [hog]; exact HIz.out.lt
              have HOGG := Aside0.mk HOG
              have HGO := Aside0.mk hgo
              have hAl : Below wr.heap.size wr (wr.alloc (Obj.cells (((List.replicate 32 (0 : Int)).map (Value.int .u8)).toArray) 5 (0, 0))) := below_alloc (Below.refl _ _) _
              clear hss hog hd HOG hgo HTz hmk
              go_loopw [59] (fun v59 wq => ∃ j : Nat, j ≤ 32 ∧ v59 = .int .i64 (j : Int) ∧ Aside0 (IsBytes wq og 5 (outB ss.list j)) ∧ Aside0 (IsWords wq gS 141 ss.list) ∧ Aside0 (Below w.heap.size w wq)) (fun v59 _ => 32 - (intOf v59).toNat)
              case atStart => exact ⟨0, by omega, rfl, ⟨by rw [hog2]; exact heap_alloc_new wr _⟩, ⟨HIz.out.below hAl HIz.out.lt⟩, ⟨HBz.out.trans (hAl.mono HBz.out.size)⟩⟩
              case round =>
                obtain ⟨j, hj, rfl, HOj, HIj, HBj⟩ := hrel
                clear HIz HBz hAl hog2
                by_cases hj32 : j < 32
                · have hd : decide ((j : Int) < 32) = true := by simp; omega
                  obtain ⟨j4, hj4⟩ : ∃ j4, j4 = j / 4 := ⟨_, rfl⟩
                  have g1 : (j : Int) / 4 = (j4 : Int) := by omega
                  have g2 : j4 < 8 := by omega
                  have hcw := HIj.out.cell j4 (by show j4 < 8; omega)
                  have hlo : (outB ss.list j).length = 32 := outB_length _ _
                  have hco := HOj.out.cell j (by omega)
                  have hfo := HOj.out.frozen j
                  have HJ4 := Aside0.mk hj4
                  clear hj4 hlo
                  have hr4 : (j : Int) % 4 = 0 ∨ (j : Int) % 4 = 1 ∨ (j : Int) % 4 = 2 ∨ (j : Int) % 4 = 3 := by omega
                  rcases hr4 with hr4 | hr4 | hr4 | hr4
                  · go_wp2_with fail
                    have hwb : wordByte ss.list j = ss.list[j4]?.getD 0 / 16777216 % 256 := by rw [wordByte_0 _ _ (by omega), ← HJ4.out]
                    refine ⟨⟨j + 1, by omega, by go_num, ⟨?_⟩, ⟨(KeepBut.refl _ og none |>.set_ _ _).blk HIj.out (by have := HGO.out; omega) (by simp)⟩, ⟨HBj.out.setCell (by show w.heap.size ≤ og; exact HOGG.out) _⟩⟩, by simp only [intOf]; omega⟩
                    rw [← hwb]
                    exact HOj.out.set j _
                  · go_wp2_with fail
                    have hwb : wordByte ss.list j = ss.list[j4]?.getD 0 / 65536 % 256 := by rw [wordByte_1 _ _ (by omega), ← HJ4.out]
                    refine ⟨⟨j + 1, by omega, by go_num, ⟨?_⟩, ⟨(KeepBut.refl _ og none |>.set_ _ _).blk HIj.out (by have := HGO.out; omega) (by simp)⟩, ⟨HBj.out.setCell (by show w.heap.size ≤ og; exact HOGG.out) _⟩⟩, by simp only [intOf]; omega⟩
                    rw [← hwb]
                    exact HOj.out.set j _
                  · go_wp2_with fail
                    have hwb : wordByte ss.list j = ss.list[j4]?.getD 0 / 256 % 256 := by rw [wordByte_2 _ _ (by omega), ← HJ4.out]
                    refine ⟨⟨j + 1, by omega, by go_num, ⟨?_⟩, ⟨(KeepBut.refl _ og none |>.set_ _ _).blk HIj.out (by have := HGO.out; omega) (by simp)⟩, ⟨HBj.out.setCell (by show w.heap.size ≤ og; exact HOGG.out) _⟩⟩, by simp only [intOf]; omega⟩
                    rw [← hwb]
                    exact HOj.out.set j _
                  · go_wp2_with fail
                    have hwb : wordByte ss.list j = ss.list[j4]?.getD 0 % 256 := by rw [wordByte_3 _ _ (by omega), ← HJ4.out]
                    refine ⟨⟨j + 1, by omega, by go_num, ⟨?_⟩, ⟨(KeepBut.refl _ og none |>.set_ _ _).blk HIj.out (by have := HGO.out; omega) (by simp)⟩, ⟨HBj.out.setCell (by show w.heap.size ≤ og; exact HOGG.out) _⟩⟩, by simp only [intOf]; omega⟩
                    rw [← hwb]
                    exact HOj.out.set j _
                · obtain rfl : j = 32 := by omega
                  have hd : decide (((32 : Nat) : Int) < 32) = false := by decide
                  go_wp2_with fail
                  go_ret
                  have hrl := HRL.out
                  have hi64 : i = bs.length / 64 := by omega
                  have hfin : outB ss.list 32 = shaSum bs := by
                    unfold shaSum
                    rw [HSS.out, HDT.out, HMT.out, hi64]
                    unfold tailOf
                    rw [← hi64, ← HRS.out, ← HMT.out, ← HTT.out]
                  rw [← hfin]
                  exact ⟨_, rfl, HOj.out.R HOGG.out (outB_length _ _) (by decide), HBj.out⟩
end Go.Proofs.YteamljekjncbfaaDoor.P
end
section
set_option linter.unusedVariables false
set_option linter.unusedSimpArgs false
namespace Go.Proofs.YteamljekjncbfaaDoor.P
open Go.RowKit Go.Proofs.YteamljekjncbfaaDoorW.PrintWords Go.Proofs.YteamljekjncbfaaDoorW.PrintLast Go.Proofs.YteamljekjncbfaaDoorW.PrintMore
theorem shaSum_length (bs : List Int) : (shaSum bs).length = 32 := outB_length _ _
def sha_Sum.f (l0 : List Int) : Option (List Int) := if l0.length ≤ 140737488355328 then some (shaSum l0) else none
def sha_Cut.f (a0 : Int) (l1 : List Int) : Option (List Int) := if l1.length ≤ 140737488355328 then some ((shaSum l1).take (mn (mx a0 0) 32).toNat) else none
attribute [local go_sem] max2_int min2_int max_two min_two
set_option maxHeartbeats 1000000 in
set_option maxRecDepth 100000 in
theorem sha_Cut.calls (a0 : Int) (A1 : Option Addr) (c1 : Nat) (l1 : List Int) (r : List Int) (w : World) (hr1 : Kd.C (Kd.int .u8) w A1 l1.length l1) (hc1 : l1.length ≤ c1) (hGS : GlobS w) (h : sha_Cut.f a0 l1 = some r) :
    Calls Tryd.prog 90 #[.int .i64 a0, .slice A1 l1.length c1] w fun e w' => ∃ v0_ : Value, e = .returned (v0_) ∧ Kd.V (Kd.int .u8) 5 w' w.heap.size (fun k_ => w.heap.size ≤ k_) v0_ r ∧ Below w.heap.size w w' := by
  unfold sha_Cut.f at h
  split at h
  case isFalse => cases h
  case isTrue hb =>
    obtain rfl := Option.some.inj h
    obtain ⟨j, hj⟩ : ∃ j, j = mx a0 0 := ⟨_, rfl⟩
    obtain ⟨n, hn⟩ : ∃ n, n = mn j 32 := ⟨_, rfl⟩
    have e1 : (if a0 < 0 then 0 else a0) = j := hj.symm
    have e2 : (if 32 < j then 32 else j) = n := hn.symm
    have hn0 : 0 ≤ n := by rw [← e2, ← e1]; split <;> split <;> omega
    have hn32 : n ≤ 32 := by rw [← e2]; split <;> omega
    obtain ⟨m, rfl⟩ : ∃ m : Nat, n = (m : Int) := ⟨n.toNat, by omega⟩
    rw [← hj, ← hn, Int.toNat_natCast]
    have HR := Aside0.mk hr1
    have HC := Aside0.mk hc1
    have HGS := Aside0.mk hGS
    clear h hr1 hc1 hGS hj hn
    go_enter Tryd.func90, Tryd.ntmps90
    go_wp2_with fail
    refine (sum_any A1 c1 l1 w HR.out HC.out hb HGS.out).mono ?_
    rintro e w1 ⟨v, rfl, hR1, hB1⟩
    obtain ⟨A, c, rfl⟩ := Kd.R_slice hR1
    have hlc := (Kd.R_reads' hR1).2.1
    have HR1 := Aside0.mk hR1
    have HB1 := Aside0.mk hB1
    clear hR1 hB1
    have hl32 : (shaSum l1).length = 32 := shaSum_length l1
    have hmc : (m : Int) ≤ (c : Int) := by omega
    have hm32 : m ≤ 32 := by omega
    go_wp2_with fail
    go_ret
    have hR2 : Kd.R (Kd.int .u8) 5 w1 w.heap.size (fun k_ => w.heap.size ≤ k_) (.slice A m c) ((shaSum l1).take m) := Kd.R_mono (Kd.R_bound (Kd.R_take HR1.out (by omega))) (fun k hk => hk.2.1)
    have hlm : ((shaSum l1).take m).length = m := by rw [List.length_take]; omega
    have hV := (Kd.V_at (Kd.R_V (base' := w.heap.size) hR2)).2.2
    have hV2 := Kd.V_mk (base := w.heap.size) (e := 5) (Nat.le_refl _) hV
    rw [hlm] at hV2
    exact ⟨_, rfl, hV2, HB1.out⟩
end Go.Proofs.YteamljekjncbfaaDoor.P
end
section
namespace Go.Proofs.YteamljekjncbfaaDoor.P
open Go.RowKit Go.Proofs.YteamljekjncbfaaDoorW.PrintWords Go.Proofs.YteamljekjncbfaaDoorW.PrintLast Go.Proofs.YteamljekjncbfaaDoorW.PrintMore
attribute [local go_sem] max2_int min2_int max_two min_two max_three min_three max_four min_four
set_option linter.unusedVariables false
set_option linter.unusedSimpArgs false
def annalsref01_right.f (a0 : Int) (a1 : Int) : Option (Int) := if 0 ≤ a1 then (if 0 ≤ (wrap64 (32 - a1)) then (some (Go.bits .or .u32 (shr .u32 a0 a1) (shl .u32 a0 (wrap64 (32 - a1))))) else (none)) else (none)
set_option maxHeartbeats 8000000 in
set_option maxRecDepth 100000 in
theorem annalsref01_right.calls (a0 : Int) (a1 : Int) (r : Int) (w : World) (h : annalsref01_right.f a0 a1 = some r) :
    Calls Tryd.prog 120 #[.int .u32 a0, .int .i64 a1] w fun e w' => e = .returned (.int .u32 r) ∧ Drawn0 w w' := by
  have H : (if 0 ≤ a1 then (if 0 ≤ (wrap64 (32 - a1)) then (some (Go.bits .or .u32 (shr .u32 a0 a1) (shl .u32 a0 (wrap64 (32 - a1))))) else (none)) else (none)) = some r := h
  clear h
  by_cases c3 : 0 ≤ a1
  · rw [if_pos c3] at H
    have c3b0 := eq_true c3
    have c3b1 : decide (0 ≤ a1) = true := decide_eq_true c3
    clear c3
    obtain ⟨ji4, hji4⟩ : ∃ j_ : Int, (shr .u32 a0 a1) = j_ := ⟨_, rfl⟩
    replace H : (if 0 ≤ (wrap64 (32 - a1)) then (some (Go.bits .or .u32 (ji4) (shl .u32 a0 (wrap64 (32 - a1))))) else (none)) = some r := by first | (rw [hji4] at H; exact H) | (simp only [hji4] at H ⊢; exact H)
    have hji4_ : (a0 / 2 ^ min a1.toNat 32) = ji4 := hji4
    have hji4z : a1 ≤ 32 → (a0 / 2 ^ a1.toNat) = ji4 := shr_small hji4
    obtain ⟨ji5, hji5⟩ : ∃ j_ : Int, (wrap64 (32 - a1)) = j_ := ⟨_, rfl⟩
    replace H : (if 0 ≤ (ji5) then (some (Go.bits .or .u32 (ji4) (shl .u32 a0 (ji5)))) else (none)) = some r := by first | (rw [hji5] at H; exact H) | (simp only [hji5] at H ⊢; exact H)
    have hji5w : (IntKind.i64.wrap (32 - a1)) = ji5 := (i64_w _).trans hji5
    by_cases c6 : 0 ≤ (ji5)
    · rw [if_pos c6] at H
      have c6b0 := eq_true c6
      have c6b1 : decide (0 ≤ (ji5)) = true := decide_eq_true c6
      clear c6
      obtain ⟨ji7, hji7⟩ : ∃ j_ : Int, (shl .u32 a0 (ji5)) = j_ := ⟨_, rfl⟩
      replace H : (some (Go.bits .or .u32 (ji4) (ji7))) = some r := by first | (rw [hji7] at H; exact H) | (simp only [hji7] at H ⊢; exact H)
      have hji7_ : (IntKind.u32.wrap (a0 * 2 ^ min (ji5).toNat 32)) = ji7 := hji7
      have hji7z : (ji5) ≤ 32 → (IntKind.u32.wrap (a0 * 2 ^ (ji5).toNat)) = ji7 := shl_small hji7
      obtain rfl := Option.some.inj H
      go_enter Tryd.func120, Tryd.ntmps120
      go_wp2
      repeat (go_quiet (fail); try go_wp2)
      go_ret
      exact ⟨by first | rfl | (simp; done) | (simp only [← hji4, ← hji5, ← hji7] <;> (first | rfl | simp)) | (simp [*]; done), by repeat (first | exact Drawn0.refl _ | apply Drawn0.step)⟩
    · rw [if_neg c6] at H
      exact absurd H (by simp)
  · rw [if_neg c3] at H
    exact absurd H (by simp)
end Go.Proofs.YteamljekjncbfaaDoor.P
end
section
set_option linter.unusedVariables false
set_option linter.unusedSimpArgs false
namespace Go.Proofs.YteamljekjncbfaaDoor.P
open Go.RowKit Go.Proofs.YteamljekjncbfaaDoorW.PrintWords Go.Proofs.YteamljekjncbfaaDoorW.PrintLast Go.Proofs.YteamljekjncbfaaDoorW.PrintMore
theorem right_some (x n : Int) (h0 : 0 ≤ n) (h1 : n ≤ 32) : annalsref01_right.f x n = some ((annalsref01_right.f x n).getD 0) := by
  unfold annalsref01_right.f
  rw [if_pos h0, if_pos (by unfold wrap64; omega)]
  rfl
def Sums.agg (s : Sums) : Value := .agg #[.int .u32 s.a, .int .u32 s.b, .int .u32 s.c, .int .u32 s.d, .int .u32 s.e, .int .u32 s.f, .int .u32 s.g, .int .u32 s.h]
def Sums.rround (s : Sums) (add : Int) : Sums :=
  let s0 := Go.bits .xor .u32 (Go.bits .xor .u32 ((annalsref01_right.f s.a 2).getD 0) ((annalsref01_right.f s.a 13).getD 0)) ((annalsref01_right.f s.a 22).getD 0)
  let s1 := Go.bits .xor .u32 (Go.bits .xor .u32 ((annalsref01_right.f s.e 6).getD 0) ((annalsref01_right.f s.e 11).getD 0)) ((annalsref01_right.f s.e 25).getD 0)
  let choice := Go.bits .xor .u32 (Go.bits .and .u32 s.e s.f) (Go.bits .and .u32 (Go.bits .xor .u32 IntKind.u32.max s.e) s.g)
  let most := Go.bits .xor .u32 (Go.bits .xor .u32 (Go.bits .and .u32 s.a s.b) (Go.bits .and .u32 s.a s.c)) (Go.bits .and .u32 s.b s.c)
  ⟨(s.h + s1 + choice + add + s0 + most) % 4294967296, s.a, s.b, s.c, (s.d + (s.h + s1 + choice + add)) % 4294967296, s.e, s.f, s.g⟩
set_option maxRecDepth 100000 in
theorem results_round (W : World) (g : Nat) (v : Sums) (h : IsWords W g 140 v.list) (tm : Array Value) (h4 : tm[4]?.getD undef = .pointer (some ⟨g, 0, none⟩)) : (results Tryd.f121 tm).run Tryd.prog W = .ok v.agg W := by
  obtain ⟨c0, c1, c2, c3, c4, c5, c6, c7⟩ := IsSums.cells h
  simp [results, Tryd.results121, go_sem, h4, c0, c1, c2, c3, c4, c5, c6, c7, Sums.agg]
set_option maxHeartbeats 4000000 in
set_option maxRecDepth 100000 in
theorem round_calls (s : Sums) (add : Int) (w : World) :
    Calls Tryd.prog 121 #[s.agg, .int .u32 add] w fun e w' => e = .returned (s.rround add).agg ∧ Below w.heap.size w w' := by
  obtain ⟨y1, h1⟩ : ∃ y, annalsref01_right.f s.a 2 = some y := ⟨_, right_some _ _ (by omega) (by omega)⟩
  obtain ⟨y2, h2⟩ : ∃ y, annalsref01_right.f s.a 13 = some y := ⟨_, right_some _ _ (by omega) (by omega)⟩
  obtain ⟨y3, h3⟩ : ∃ y, annalsref01_right.f s.a 22 = some y := ⟨_, right_some _ _ (by omega) (by omega)⟩
  obtain ⟨y4, h4⟩ : ∃ y, annalsref01_right.f s.e 6 = some y := ⟨_, right_some _ _ (by omega) (by omega)⟩
  obtain ⟨y5, h5⟩ : ∃ y, annalsref01_right.f s.e 11 = some y := ⟨_, right_some _ _ (by omega) (by omega)⟩
  obtain ⟨y6, h6⟩ : ∃ y, annalsref01_right.f s.e 25 = some y := ⟨_, right_some _ _ (by omega) (by omega)⟩
  have G1 := Aside0.mk h1
  have G2 := Aside0.mk h2
  have G3 := Aside0.mk h3
  have G4 := Aside0.mk h4
  have G5 := Aside0.mk h5
  have G6 := Aside0.mk h6
  clear h1 h2 h3 h4 h5 h6
  unfold Sums.agg
  go_enter Tryd.func121, Tryd.ntmps121
  go_wp2_with fail
  obtain ⟨W1, hW1⟩ : ∃ W1, W1 = (w.alloc (Obj.cells (#[.int .u32 s.a, .int .u32 s.b, .int .u32 s.c, .int .u32 s.d, .int .u32 s.e, .int .u32 s.f, .int .u32 s.g, .int .u32 s.h]) 140 (0, 0))).alloc (Obj.cells (#[.int .u32 0, .int .u32 0, .int .u32 0, .int .u32 0, .int .u32 0, .int .u32 0, .int .u32 0, .int .u32 0]) 140 (0, 0)) := ⟨_, rfl⟩
  have hz : (w.alloc (Obj.cells (#[.int .u32 s.a, .int .u32 s.b, .int .u32 s.c, .int .u32 s.d, .int .u32 s.e, .int .u32 s.f, .int .u32 s.g, .int .u32 s.h]) 140 (0, 0))).heap.size = w.heap.size + 1 := by simp
  have hI : IsWords W1 w.heap.size 140 s.list := by
    rw [hW1]
    exact (below_alloc (Below.refl _ _) _).block _ (by rw [hz]; omega) |>.trans (heap_alloc_new w _)
  have hJ : IsWords W1 (w.heap.size + 1) 140 [0, 0, 0, 0, 0, 0, 0, 0] := by
    rw [hW1, ← hz]
    exact heap_alloc_new _ _
  have hB : Below w.heap.size w W1 := by
    rw [hW1]
    exact (below_alloc (Below.refl _ _) _).trans ((below_alloc (Below.refl _ _) _).mono (by rw [hz]; omega))
  rw [← hW1]
  obtain ⟨g, hg⟩ : ∃ g, g = w.heap.size := ⟨_, rfl⟩
  rw [← hg] at hI hJ
  rw [← hg]
  have HJ := Aside0.mk hJ
  have HB := Aside0.mk hB
  have HG := Aside0.mk hg
  obtain ⟨c0, c1, c2, c3, c4, c5, c6, c7⟩ := IsSums.cells hI
  obtain ⟨d0, d1, d2, d3, d4, d5, d6, d7⟩ := IsSums.cells (s := ⟨0, 0, 0, 0, 0, 0, 0, 0⟩) hJ
  have f0 := hJ.frozen 0
  have f1 := hJ.frozen 1
  have f2 := hJ.frozen 2
  have f3 := hJ.frozen 3
  have f4 := hJ.frozen 4
  have f5 := hJ.frozen 5
  have f6 := hJ.frozen 6
  have f7 := hJ.frozen 7
  clear hI hJ hB hg hz hW1
  go_quiet ((go_at_call 120; (first | with_reducible exact quiet_drawn0 (annalsref01_right.calls s.a 2 y1 _ G1.out) | with_reducible exact quiet_drawn2 (annalsref01_right.calls s.a 2 y1 _ G1.out) | with_reducible exact quiet_drawn (annalsref01_right.calls s.a 2 y1 _ G1.out) | with_reducible exact quiet_drawn0 (annalsref01_right.calls s.a 13 y2 _ G2.out) | with_reducible exact quiet_drawn2 (annalsref01_right.calls s.a 13 y2 _ G2.out) | with_reducible exact quiet_drawn (annalsref01_right.calls s.a 13 y2 _ G2.out) | with_reducible exact quiet_drawn0 (annalsref01_right.calls s.a 22 y3 _ G3.out) | with_reducible exact quiet_drawn2 (annalsref01_right.calls s.a 22 y3 _ G3.out) | with_reducible exact quiet_drawn (annalsref01_right.calls s.a 22 y3 _ G3.out))))
  go_wp2_with fail
  go_quiet ((go_at_call 120; (first | with_reducible exact quiet_drawn0 (annalsref01_right.calls s.e 6 y4 _ G4.out) | with_reducible exact quiet_drawn2 (annalsref01_right.calls s.e 6 y4 _ G4.out) | with_reducible exact quiet_drawn (annalsref01_right.calls s.e 6 y4 _ G4.out) | with_reducible exact quiet_drawn0 (annalsref01_right.calls s.e 11 y5 _ G5.out) | with_reducible exact quiet_drawn2 (annalsref01_right.calls s.e 11 y5 _ G5.out) | with_reducible exact quiet_drawn (annalsref01_right.calls s.e 11 y5 _ G5.out) | with_reducible exact quiet_drawn0 (annalsref01_right.calls s.e 25 y6 _ G6.out) | with_reducible exact quiet_drawn2 (annalsref01_right.calls s.e 25 y6 _ G6.out) | with_reducible exact quiet_drawn (annalsref01_right.calls s.e 25 y6 _ G6.out))))
  go_wp2_with fail
  have hR : s.rround add = ⟨(s.h + Go.bits .xor .u32 (Go.bits .xor .u32 y4 y5) y6 + Go.bits .xor .u32 (Go.bits .and .u32 s.e s.f) (Go.bits .and .u32 (Go.bits .xor .u32 IntKind.u32.max s.e) s.g) + add + Go.bits .xor .u32 (Go.bits .xor .u32 y1 y2) y3 + Go.bits .xor .u32 (Go.bits .xor .u32 (Go.bits .and .u32 s.a s.b) (Go.bits .and .u32 s.a s.c)) (Go.bits .and .u32 s.b s.c)) % 4294967296, s.a, s.b, s.c, (s.d + (s.h + Go.bits .xor .u32 (Go.bits .xor .u32 y4 y5) y6 + Go.bits .xor .u32 (Go.bits .and .u32 s.e s.f) (Go.bits .and .u32 (Go.bits .xor .u32 IntKind.u32.max s.e) s.g) + add)) % 4294967296, s.e, s.f, s.g⟩ := by
    unfold Sums.rround
    rw [G1.out, G2.out, G3.out, G4.out, G5.out, G6.out]
    rfl
  have hW := fun n => put8_words (s := ⟨0, 0, 0, 0, 0, 0, 0, 0⟩) (HJ.out.drewN n) (s.rround add).a (s.rround add).b (s.rround add).c (s.rround add).d (s.rround add).e (s.rround add).f (s.rround add).g (s.rround add).h
  have hB2 := fun n => put8_below (w0 := w) (w := W1.drewN n) ⟨HB.out.os, HB.out.tape, HB.out.output, HB.out.size, HB.out.block⟩ (g := g + 1) (by have := HG.out; omega) (s.rround add).a (s.rround add).b (s.rround add).c (s.rround add).d (s.rround add).e (s.rround add).f (s.rround add).g (s.rround add).h
  obtain ⟨S, hS⟩ : ∃ S, S = s.rround add := ⟨_, rfl⟩
  rw [← hS] at hR hW hB2
  rw [← hS]
  obtain ⟨va, hva⟩ : ∃ va, va = S.a := ⟨_, rfl⟩
  obtain ⟨ve, hve⟩ : ∃ ve, ve = S.e := ⟨_, rfl⟩
  clear c0 c1 c2 c3 c4 c5 c6 c7 d0 d1 d2 d3 d4 d5 d6 d7 f0 f1 f2 f3 f4 f5 f6 f7
  have hSa : S.a = _ := congrArg Sums.a hR
  have hSe : S.e = _ := congrArg Sums.e hR
  have hSb : S.b = s.a := congrArg Sums.b hR
  have hSc : S.c = s.b := congrArg Sums.c hR
  have hSd : S.d = s.c := congrArg Sums.d hR
  have hSf : S.f = s.e := congrArg Sums.f hR
  have hSg : S.g = s.f := congrArg Sums.g hR
  have hSh : S.h = s.g := congrArg Sums.h hR
  simp only [hSb, hSc, hSd, hSf, hSg, hSh] at hW hB2
  rw [hSa, hSe] at hW hB2
  refine bodyPost_ret (v := S.agg) (results_round _ (g + 1) S ?_ _ rfl) rfl ⟨rfl, hB2 _⟩
  rw [hR]
  exact hW _
end Go.Proofs.YteamljekjncbfaaDoor.P
end
section
set_option linter.unusedVariables false
set_option linter.unusedSimpArgs false
namespace Go.Proofs.YteamljekjncbfaaDoor.P
open Go.RowKit Go.Proofs.YteamljekjncbfaaDoorW.PrintWords Go.Proofs.YteamljekjncbfaaDoorW.PrintLast Go.Proofs.YteamljekjncbfaaDoorW.PrintMore
theorem results_row (fn : Func) (g t : Nat) (n e : Nat) (slot : Nat) (cs : Array Value) (tm : Array Value) (W : World) (hf : fn.results = #[.cell slot t]) (hu : Tryd.prog.underlying t = some (.array n e)) (hi : (Tryd.prog.info? t).map (·.size) = some cs.size)
    (h : W.heap[g]? = some (.cells cs t (0, 0))) (h4 : tm.getD slot undef = .pointer (some ⟨g, 0, none⟩)) : (results fn tm).run Tryd.prog W = .ok (.agg cs) W := by
  unfold results
  rw [hf]
  have hl := run_loadVar_row (P := Tryd.prog) W g t t cs (0, 0) (.array n e) h hu rfl hi
  have h4' : tm[slot]?.getD undef = .pointer (some ⟨g, 0, none⟩) := by simpa using h4
  simp [h4', asAddr, hl]
set_option maxHeartbeats 4000000 in
set_option maxRecDepth 100000 in
theorem adds_calls (w : World) :
    Calls Tryd.prog 117 #[] w fun e w' => e = .returned (.agg (words shaAdded)) ∧ Below w.heap.size w w' := by
  go_enter Tryd.func117, Tryd.ntmps117
  have hbl : Tryd.prog.built 144 ((List.range 64).map fun i => (i, Value.int .u32 (shaAdded.getD i 0))) = some (words shaAdded) := by kernel_rfl
  go_wp2_with (first | (refine wpList_build rfl 144 _ rfl (by kernel_rfl) ?_) | (refine wpList_store_row rfl 144 (.tmp 0) (.tmp 1) rfl w.heap.size (words shaAdded) rfl (by kernel_rfl) 144 _ (heap_alloc_new w _) (by kernel_rfl) (by kernel_rfl) (by kernel_rfl) ?_))
  refine bodyPost_ret (v := .agg (words shaAdded)) (results_row _ w.heap.size 144 64 117 0 _ _ _ rfl Tryd.underlying144 (by kernel_rfl) (setRow_heap _ _ _ _ _ _ (heap_alloc_new w _)) rfl) rfl ⟨rfl, below_setRow (below_alloc (Below.refl _ _) _) (Nat.le_refl _) _⟩
end Go.Proofs.YteamljekjncbfaaDoor.P
end
section
namespace Go.Proofs.YteamljekjncbfaaDoor.P
open Go.RowKit Go.Proofs.YteamljekjncbfaaDoorW.PrintWords Go.Proofs.YteamljekjncbfaaDoorW.PrintLast Go.Proofs.YteamljekjncbfaaDoorW.PrintMore
attribute [local go_sem] max2_int min2_int max_two min_two max_three min_three max_four min_four
set_option linter.unusedVariables false
set_option linter.unusedSimpArgs false
def annalsref01_word.f (l0 : List Int) : Option (Int) := if 0 < (l0.length : Int) then (if 1 < (l0.length : Int) then (if 2 < (l0.length : Int) then (if 3 < (l0.length : Int) then (some ((((((((((rd l0 0) % 4294967296) * 16777216) % 4294967296) + ((((rd l0 1) % 4294967296) * 65536) % 4294967296)) % 4294967296) + ((((rd l0 2) % 4294967296) * 256) % 4294967296)) % 4294967296) + ((rd l0 3) % 4294967296)) % 4294967296)) else (none)) else (none)) else (none)) else (none)
set_option maxHeartbeats 8000000 in
set_option maxRecDepth 100000 in
theorem annalsref01_word.calls (A0 : Option Addr) (c0 : Nat) (l0 : List Int) (r : Int) (w : World) (hr0 : Kd.C (Kd.int .u8) w A0 l0.length l0) (hc0 : l0.length ≤ c0) (h : annalsref01_word.f l0 = some r) :
    Calls Tryd.prog 119 #[.slice A0 l0.length c0] w fun e w' => e = .returned (.int .u32 r) ∧ Drawn0 w w' := by
  have HR0 := Aside0.mk hr0
  have HC0 := Aside0.mk hc0
  clear hr0 hc0
  have H : (if 0 < (l0.length : Int) then (if 1 < (l0.length : Int) then (if 2 < (l0.length : Int) then (if 3 < (l0.length : Int) then (some ((((((((((rd l0 0) % 4294967296) * 16777216) % 4294967296) + ((((rd l0 1) % 4294967296) * 65536) % 4294967296)) % 4294967296) + ((((rd l0 2) % 4294967296) * 256) % 4294967296)) % 4294967296) + ((rd l0 3) % 4294967296)) % 4294967296)) else (none)) else (none)) else (none)) else (none)) = some r := h
  clear h
  by_cases c2 : 0 < (l0.length : Int)
  · rw [if_pos c2] at H
    have c2b0 : decide (0 < (l0.length : Int)) = true := decide_eq_true c2
    have c2b1 : decide (0 < l0.length) = true := decide_eq_true (by omega)
    clear c2
    by_cases c3 : 1 < (l0.length : Int)
    · rw [if_pos c3] at H
      have c3b0 : decide (1 < (l0.length : Int)) = true := decide_eq_true c3
      have c3b1 : decide (1 < l0.length) = true := decide_eq_true (by omega)
      clear c3
      by_cases c4 : 2 < (l0.length : Int)
      · rw [if_pos c4] at H
        have c4b0 : decide (2 < (l0.length : Int)) = true := decide_eq_true c4
        have c4b1 : decide (2 < l0.length) = true := decide_eq_true (by omega)
        clear c4
        by_cases c5 : 3 < (l0.length : Int)
        · rw [if_pos c5] at H
          have c5b0 : decide (3 < (l0.length : Int)) = true := decide_eq_true c5
          have c5b1 : decide (3 < l0.length) = true := decide_eq_true (by omega)
          clear c5
          obtain rfl := Option.some.inj H
          have p149 : 0 ≤ (0 : Int) := (by omega)
          have q149 : 0 < (l0.length : Int) := of_decide_eq_true (by first | (with_reducible assumption) | assumption)
          obtain ⟨ad149, e149, hx149_0⟩ := Kd.at_int HR0.out 0 p149 q149
          cases e149
          have qi149 : (0 < l0.length) = True := eq_true (by omega)
          (try rw [show ((0 : Int)).toNat = 0 from rfl] at hx149_0)
          (try rw [Addr.add_zero'] at hx149_0)
          replace p149 := eq_true p149
          replace q149 := eq_true q149
          have p150 : 0 ≤ (1 : Int) := (by omega)
          have q150 : 1 < (l0.length : Int) := of_decide_eq_true (by first | (with_reducible assumption) | assumption)
          obtain ⟨ad150, e150, hx150_0⟩ := Kd.at_int HR0.out 1 p150 q150
          obtain rfl : ad149 = ad150 := (by injection e150)
          (try simp only [show (1 : Int).toNat = 1 from rfl, Nat.reduceMul, Nat.reduceEqDiff, Go.Addr.add, ↓reduceIte] at hx150_0)
          have qi150 : (1 < l0.length) = True := eq_true (by omega)
          (try rw [show ((1 : Int)).toNat = 1 from rfl] at hx150_0)
          replace p150 := eq_true p150
          replace q150 := eq_true q150
          have p151 : 0 ≤ (2 : Int) := (by omega)
          have q151 : 2 < (l0.length : Int) := of_decide_eq_true (by first | (with_reducible assumption) | assumption)
          obtain ⟨ad151, e151, hx151_0⟩ := Kd.at_int HR0.out 2 p151 q151
          obtain rfl : ad149 = ad151 := (by injection e151)
          (try simp only [show (2 : Int).toNat = 2 from rfl, Nat.reduceMul, Nat.reduceEqDiff, Go.Addr.add, ↓reduceIte] at hx151_0)
          have qi151 : (2 < l0.length) = True := eq_true (by omega)
          (try rw [show ((2 : Int)).toNat = 2 from rfl] at hx151_0)
          replace p151 := eq_true p151
          replace q151 := eq_true q151
          have p152 : 0 ≤ (3 : Int) := (by omega)
          have q152 : 3 < (l0.length : Int) := of_decide_eq_true (by first | (with_reducible assumption) | assumption)
          obtain ⟨ad152, e152, hx152_0⟩ := Kd.at_int HR0.out 3 p152 q152
          obtain rfl : ad149 = ad152 := (by injection e152)
          (try simp only [show (3 : Int).toNat = 3 from rfl, Nat.reduceMul, Nat.reduceEqDiff, Go.Addr.add, ↓reduceIte] at hx152_0)
          have qi152 : (3 < l0.length) = True := eq_true (by omega)
          (try rw [show ((3 : Int)).toNat = 3 from rfl] at hx152_0)
          replace p152 := eq_true p152
          replace q152 := eq_true q152
          go_enter Tryd.func119, Tryd.ntmps119
          go_wp2
          repeat (go_quiet (fail); try go_wp2)
          go_ret
          exact ⟨by first | rfl | (simp; done) | (simp [*]; done), by repeat (first | exact Drawn0.refl _ | apply Drawn0.step)⟩
        · rw [if_neg c5] at H
          exact absurd H (by simp)
      · rw [if_neg c4] at H
        exact absurd H (by simp)
    · rw [if_neg c3] at H
      exact absurd H (by simp)
  · rw [if_neg c2] at H
    exact absurd H (by simp)
end Go.Proofs.YteamljekjncbfaaDoor.P
end
section
namespace Go.Proofs.YteamljekjncbfaaDoor.P
open Go.RowKit Go.Proofs.YteamljekjncbfaaDoorW.PrintWords Go.Proofs.YteamljekjncbfaaDoorW.PrintLast Go.Proofs.YteamljekjncbfaaDoorW.PrintMore
attribute [local go_sem] max2_int min2_int max_two min_two max_three min_three max_four min_four
set_option linter.unusedVariables false
set_option linter.unusedSimpArgs false
def annalsref01_Blocks.f (a0 : Int) : Option (Int) := if a0 < 0 then (some (((0 : Int) / 64) + (((((0 : Int) % 64) + 9) + 63) / 64))) else (some (wrap64 ((wrap64 (Int.tdiv a0 64)) + (wrap64 (Int.tdiv (wrap64 ((wrap64 ((Int.tmod a0 64) + 9)) + 63)) 64)))))
set_option maxHeartbeats 8000000 in
set_option maxRecDepth 100000 in
theorem annalsref01_Blocks.calls (a0 : Int) (r : Int) (w : World) (h : annalsref01_Blocks.f a0 = some r) :
    Calls Tryd.prog 118 #[.int .i64 a0] w fun e w' => e = .returned (.int .i64 r) ∧ Drawn0 w w' := by
  have H : (if a0 < 0 then (some (((0 : Int) / 64) + (((((0 : Int) % 64) + 9) + 63) / 64))) else (some (wrap64 ((wrap64 (Int.tdiv a0 64)) + (wrap64 (Int.tdiv (wrap64 ((wrap64 ((Int.tmod a0 64) + 9)) + 63)) 64)))))) = some r := h
  clear h
  by_cases c2 : a0 < 0
  · rw [if_pos c2] at H
    have c2b0 : decide (a0 < 0) = true := decide_eq_true c2
    clear c2
    obtain rfl := Option.some.inj H
    go_enter Tryd.func118, Tryd.ntmps118
    go_wp2
    go_ret
    exact ⟨by first | rfl | (simp; done) | (simp [*]; done), by repeat (first | exact Drawn0.refl _ | apply Drawn0.step)⟩
  · rw [if_neg c2] at H
    have c2b0 : decide (a0 < 0) = false := decide_eq_false c2
    clear c2
    obtain rfl := Option.some.inj H
    go_enter Tryd.func118, Tryd.ntmps118
    go_wp2
    go_ret
    exact ⟨by first | rfl | (simp; done) | (simp [*]; done), by repeat (first | exact Drawn0.refl _ | apply Drawn0.step)⟩
end Go.Proofs.YteamljekjncbfaaDoor.P
end
