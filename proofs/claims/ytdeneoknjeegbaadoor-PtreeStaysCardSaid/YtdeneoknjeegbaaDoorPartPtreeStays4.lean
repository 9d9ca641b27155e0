/- Lemmas of this claim, part 4. -/
import Derived.Test.YtdeneoknjeegbaaDoorPartPtreeStays2
import Derived.Laws.CopyOwn
import Derived.Test.YtdeneoknjeegbaaDoorPartPtreeStays3
import Derived.Outline
import Derived.Lib.SlBytesConst
set_option linter.unusedVariables false
set_option linter.unusedSimpArgs false
section
namespace Go.Proofs.YtdeneoknjeegbaaDoor.P
open Go.RowKit YtdeneoknjeegbaaDoorW.PrintWords YtdeneoknjeegbaaDoorW.PrintLast YtdeneoknjeegbaaDoorW.PrintMore
def Sums.of (l : List Int) : Sums := ⟨l.getD 0 0, l.getD 1 0, l.getD 2 0, l.getD 3 0, l.getD 4 0, l.getD 5 0, l.getD 6 0, l.getD 7 0⟩
theorem Sums.of_list (l : List Int) (h : l.length = 8) : (Sums.of l).list = l := by
  match l, h with
  | [a, b, c, d, e, f, g, h], _ => rfl
theorem Sums.take_length (s : Sums) (bs : List Int) : (s.take bs).length = 8 := by
  unfold Sums.take
  rw [addW_length]
  rfl
def Sums.blocks (s : Sums) (bs : List Int) : Nat -> Sums
  | 0 => s
  | i + 1 => Sums.of ((Sums.blocks s bs i).take (bs.drop (64 * i)))
def Sums.first : Sums := Sums.of shaFirst
def tailBlocks (n : Nat) : Nat := if n % 64 + 9 > 64 then 2 else 1
def nblocks (n : Nat) : Nat := n / 64 + tailBlocks n
attribute [local go_sem] max2_int min2_int max_two min_two in
set_option maxHeartbeats 4000000 in
set_option maxRecDepth 100000 in
theorem blocks_calls (n : Nat) (hn : n <= 140737488355328) (w : World) :
    Calls Tryd.prog 109 #[.int .i64 (n : Int)] w fun e w' => e = .returned (.int .i64 (nblocks n : Int)) /\ Below w.heap.size w w' := by
  have HB := z_ (Below.refl w.heap.size w)
  obtain ⟨j, hj⟩ : ∃ j : Int, j = (n : Int) := ⟨_, rfl⟩
  have hj0 : ¬ j < 0 := by omega
  have hmx : (if j < 0 then 0 else j) = j := if_neg hj0
  have hjm : j <= 140737488355328 := by omega
  have hj1 : 0 <= j := by omega
  rw [<- hj]
  have hw0 : wrap64 (j / 64) = j / 64 := by unfold wrap64; omega
  have hw1 : wrap64 (j / 64 + 1) = j / 64 + 1 := by unfold wrap64; omega
  have hw2 : wrap64 (j / 64 + 1 + 1) = j / 64 + 1 + 1 := by unfold wrap64; omega
  by_cases c4 : j % 64 + 1 + 8 > 64
  · have c4b0 : decide (64 < j % 64 + 1 + 8) = true := decide_eq_true c4
    have hr : j / 64 + 1 + 1 = (nblocks n : Int) := by unfold nblocks tailBlocks; rw [if_pos (by omega)]; omega
    have HR := z_ hr
    clear hr c4 hj
    go_enter Tryd.func109, Tryd.ntmps109
    go_wp2
    go_ret
    exact ⟨by rw [<- HR.out]; rfl, by repeat (first | (with_reducible first | exact HB.out | apply below_alloc | apply pw_below_drewN | apply below_drew1) | exact HB.out)⟩
  · have c4b0 : decide (64 < j % 64 + 1 + 8) = false := decide_eq_false c4
    have hr : j / 64 + 1 = (nblocks n : Int) := by unfold nblocks tailBlocks; rw [if_neg (by omega)]; omega
    have HR := z_ hr
    clear hr c4 hj
    go_enter Tryd.func109, Tryd.ntmps109
    go_wp2
    go_ret
    exact ⟨by rw [<- HR.out]; rfl, by repeat (first | (with_reducible first | exact HB.out | apply below_alloc | apply pw_below_drewN | apply below_drew1) | exact HB.out)⟩
def IsBytes (w : World) (g t : Nat) (xs : List Int) : Prop := w.heap[g]? = some (.cells (xs.map (Value.int .u8)).toArray t (0, 0))
theorem IsBytes.cell {w : World} {g t : Nat} {xs : List Int} (h : IsBytes w g t xs) (i : Nat) (hi : i < xs.length) : w.cell? ⟨g, i, none⟩ = some (.int .u8 (xs.getD i 0)) := by
  refine (blk_cell h i).trans ?_
  rw [List.getElem?_toArray, List.getElem?_map, List.getElem?_eq_getElem hi, List.getD_eq_getElem?_getD, List.getElem?_eq_getElem hi]
  rfl
theorem IsBytes.frozen {w : World} {g t : Nat} {xs : List Int} (h : IsBytes w g t xs) (i : Nat) : w.frozen? ⟨g, i, none⟩ = false := blk_frozen h i
theorem IsBytes.set {w : World} {g t : Nat} {xs : List Int} (h : IsBytes w g t xs) (i : Nat) (x : Int) : IsBytes (w.setCell ⟨g, i, none⟩ (.int .u8 x)) g t (xs.set i x) := by
  unfold IsBytes
  have e : ((xs.set i x).map (Value.int .u8)).toArray = ((xs.map (Value.int .u8)).toArray).setIfInBounds i (.int .u8 x) := by rw [List.map_set]; simp
  rw [e]
  exact blk_set h i _
theorem IsBytes.C {w : World} {g t o n : Nat} {xs : List Int} (h : IsBytes w g t xs) (hn : o + n <= xs.length) (hm : n <= 9223372036854775807) : Kd.C (Kd.int .u8) w (some ⟨g, o, none⟩) n ((xs.drop o).take n) := by
  refine Kd.C_of_reads (h1 := fun _ => rfl) (d := 0) ⟨by rw [List.length_take, List.length_drop]; omega, hm, fun _ => ⟨_, rfl, fun j hj => ?_⟩⟩
  have := h.cell (o + j) (by omega)
  rw [show (Addr.add ⟨g, o, none⟩ j) = ⟨g, o + j, none⟩ from by simp [Addr.add]]
  rw [this]
  simp [List.getElem?_take, hj]
theorem IsBytes.R {w : World} {g e n base : Nat} {xs : List Int} (h : IsBytes w g e xs) (hb : base <= g) (hn : xs.length = n) (hm : n <= maxLen) : Kd.R (Kd.int .u8) e w base (fun _ => True) (.slice (some ⟨g, 0, none⟩) n n) xs := by
  subst hn
  refine Kd.R_of_own ⟨by simp [encs_length], .inr ⟨g, xs.length, _, rfl, hb, h, Nat.le_refl _, hm, by simp, by simp [encs, List.take_of_length_le]⟩⟩ (fun _ _ => trivial)
theorem IsBytes.lt {w : World} {g t : Nat} {xs : List Int} (h : IsBytes w g t xs) : g < w.heap.size := by
  unfold IsBytes at h
  obtain ⟨hl, -⟩ := Array.getElem?_eq_some_iff.1 h
  exact hl
theorem IsBytes.below {w w1 : World} {g t B : Nat} {xs : List Int} (h : IsBytes w g t xs) (hb : Below B w w1) (hg : g < B) : IsBytes w1 g t xs := (hb.block g hg).trans h
theorem IsWords.lt {w : World} {g t : Nat} {xs : List Int} (h : IsWords w g t xs) : g < w.heap.size := by
  unfold IsWords at h
  obtain ⟨hl, -⟩ := Array.getElem?_eq_some_iff.1 h
  exact hl
theorem IsWords.below {w w1 : World} {g t B : Nat} {xs : List Int} (h : IsWords w g t xs) (hb : Below B w w1) (hg : g < B) : IsWords w1 g t xs := (hb.block g hg).trans h
theorem copy_src {w : World} {A : Option Addr} {n : Nat} {xs : List Int} (h : Kd.C (Kd.int .u8) w A n xs) (g : Nat) :
    0 < (xs.map (Value.int .u8)).length -> some (⟨g, 0, none⟩ : Addr) = some ⟨g, 0, none⟩ /\ ∃ ad, A = some ad /\ ∀ j v, (xs.map (Value.int .u8))[j]? = some v -> w.cell? (ad.add j) = some v := by
  intro hp
  have hr := Kd.reads_of_C (d := 0) h
  rw [List.length_map] at hp
  obtain ⟨ad, e, hc⟩ := hr.2.2 (by have := hr.1; omega)
  refine ⟨rfl, ad, e, fun j v hj => ?_⟩
  rw [List.getElem?_map] at hj
  obtain ⟨x, hx, rfl⟩ := Option.map_eq_some_iff.1 hj
  obtain ⟨hl, -⟩ := List.getElem?_eq_some_iff.1 hx
  rw [hc j (by have := hr.1; omega)]
  simp [hx]
theorem IsBytes.of_splice {w : World} {g t n : Nat} {xs : List Int} (h : w.heap[g]? = some (.cells (splice (List.replicate n (Value.int .u8 0)) 0 (xs.map (Value.int .u8))).toArray t (0, 0))) : IsBytes w g t (xs ++ List.replicate (n - xs.length) 0) := by
  unfold IsBytes
  rw [h]
  simp [splice]
theorem pad_get (xs : List Int) (n : Nat) (h : xs.length < n) : (xs ++ List.replicate (n - xs.length) (0 : Int)).getD xs.length 0 = 0 := by
  rw [List.getD_eq_getElem?_getD, List.getElem?_append_right (Nat.le_refl _), Nat.sub_self, List.getElem?_replicate, if_pos (by omega)]
  rfl
def tail0 (rest : List Int) : List Int := (rest ++ List.replicate (128 - rest.length) 0).set rest.length 128
def tailLen (m : Nat) : Nat -> Nat -> Nat -> List Int -> List Int
  | 0, _, _, ys => ys
  | k + 1, x, i, ys => if 0 < x then tailLen m k (x / 256) (i + 1) (ys.set (m - i) ((x % 256 : Nat) : Int)) else ys
def tailSize (n : Nat) : Nat := 64 * tailBlocks n
def tailOf (bs : List Int) : List Int := tailLen (tailSize bs.length) 8 (bs.length * 8) 1 (tail0 (bs.drop (64 * (bs.length / 64))))
def wordByte (ws : List Int) (i : Nat) : Int := ws.getD (i / 4) 0 / 2 ^ (8 * (3 - i % 4)) % 256
theorem wordByte_0 (ws : List Int) (i : Nat) (h : i % 4 = 0) : wordByte ws i = ws[i / 4]?.getD 0 / 16777216 % 256 := by unfold wordByte; rw [h, List.getD_eq_getElem?_getD]; rfl
theorem wordByte_1 (ws : List Int) (i : Nat) (h : i % 4 = 1) : wordByte ws i = ws[i / 4]?.getD 0 / 65536 % 256 := by unfold wordByte; rw [h, List.getD_eq_getElem?_getD]; rfl
theorem wordByte_2 (ws : List Int) (i : Nat) (h : i % 4 = 2) : wordByte ws i = ws[i / 4]?.getD 0 / 256 % 256 := by unfold wordByte; rw [h, List.getD_eq_getElem?_getD]; rfl
theorem wordByte_3 (ws : List Int) (i : Nat) (h : i % 4 = 3) : wordByte ws i = ws[i / 4]?.getD 0 % 256 := by unfold wordByte; rw [h, List.getD_eq_getElem?_getD, show (2 : Int) ^ (8 * (3 - 3)) = 1 from rfl, Int.ediv_one]
def outB (ws : List Int) : Nat -> List Int
  | 0 => List.replicate 32 0
  | i + 1 => (outB ws i).set i (wordByte ws i)
theorem outB_length (ws : List Int) (k : Nat) : (outB ws k).length = 32 := by
  induction k with
  | zero => rfl
  | succ k ih => simp [outB, ih]
def shaSum (bs : List Int) : List Int :=
  outB (Sums.blocks (Sums.blocks Sums.first bs (bs.length / 64)) ((tailOf bs).take (tailSize bs.length)) (tailBlocks bs.length)).list 32
set_option maxHeartbeats 4000000 in
set_option maxRecDepth 100000 in
theorem sum_any (A0 : Option Addr) (cap : Nat) (bs : List Int) (w : World) (hr : Kd.C (Kd.int .u8) w A0 bs.length bs) (hc : bs.length <= cap) (hb : bs.length <= 140737488355328) (hGS : GlobS w) :
    Calls Tryd.prog 103 #[.slice A0 bs.length cap] w fun e w' => ∃ v0_, e = .returned v0_ /\ Kd.R (Kd.int .u8) 5 w' w.heap.size (fun _ => True) v0_ (shaSum bs) /\ Below w.heap.size w w' := by
  obtain ⟨k0, k1, k2, k3, k4, k5, k6, k7⟩ : w.cell? ⟨0, 0, none⟩ = some (.int .u32 1779033703) /\ w.cell? ⟨0, 1, none⟩ = some (.int .u32 3144134277) /\ w.cell? ⟨0, 2, none⟩ = some (.int .u32 1013904242) /\ w.cell? ⟨0, 3, none⟩ = some (.int .u32 2773480762) /\ w.cell? ⟨0, 4, none⟩ = some (.int .u32 1359893119) /\ w.cell? ⟨0, 5, none⟩ = some (.int .u32 2600822924) /\ w.cell? ⟨0, 6, none⟩ = some (.int .u32 528734635) /\ w.cell? ⟨0, 7, none⟩ = some (.int .u32 1541459225) :=
    ⟨hGS.1 0 (by omega), hGS.1 1 (by omega), hGS.1 2 (by omega), hGS.1 3 (by omega), hGS.1 4 (by omega), hGS.1 5 (by omega), hGS.1 6 (by omega), hGS.1 7 (by omega)⟩
  have HR := z_ hr
  have HC := z_ hc
  have HGS := z_ hGS
  have HBB := z_ hb
  clear hr hc hGS
  go_enter Tryd.func103, Tryd.ntmps103
  go_wp2_with fail
  clear k0 k1 k2 k3 k4 k5 k6 k7
  obtain ⟨gS, hgS⟩ : ∃ g, g = w.heap.size := ⟨_, rfl⟩
  rw [<- hgS]
  have HGg := z_ hgS
  clear hgS
  go_loopw [0] (fun v0 wr => ∃ (i : Nat) (A : Option Addr) (c : Nat), 64 * i <= bs.length /\ v0 = .slice A (bs.drop (64 * i)).length c /\ Aside0 ((bs.drop (64 * i)).length <= c) /\ Aside0 (Kd.C (Kd.int .u8) w A (bs.drop (64 * i)).length (bs.drop (64 * i))) /\ Aside0 (IsWords wr gS 149 (Sums.blocks Sums.first bs i).list) /\ Aside0 (Below w.heap.size w wr)) (fun v0 _ => match v0 with | .slice _ n _ => n | _ => 0)
  case atStart => exact ⟨0, A0, cap, by omega, rfl, HC, HR, ⟨by rw [HGg.out]; exact heap_alloc_new w _⟩, ⟨below_alloc (Below.refl _ _) _⟩⟩
  case round =>
    obtain ⟨i, A, c, hi, rfl, HCi, HRi, HI, HB⟩ := hrel
    obtain ⟨rs, hrs⟩ : ∃ rs, rs = bs.drop (64 * i) := ⟨_, rfl⟩
    have hrl : rs.length = bs.length - 64 * i := by rw [hrs, List.length_drop]
    rw [<- hrs] at HCi HRi
    rw [<- hrs]
    have HRS := z_ hrs
    have HRL := z_ hrl
    clear hrs
    by_cases hlt : 64 <= rs.length
    · have hd : decide ((64 : Int) <= (rs.length : Int)) = true := by simp; omega
      have HLT := z_ hlt
      have hle : rs.length < 9223372036854775807 := by omega
      clear hrl
      obtain ⟨i0, hi0, _, hsz0, _⟩ := info_parts info5
      obtain ⟨A2, hcut, hA2, hC2⟩ := print_drop_of (P := Tryd.prog) (Value.int .u8) 0 31 5 .i64 Tryd.underlying31 hi0 hsz0 A c rs 64 (by omega) (by omega) HCi.out
      have HA2 := z_ (Kd.C_of_reads (h1 := fun _ => rfl) (hA2 _ (Kd.reads_of_C HRi.out)))
      have HC2 := z_ hC2
      clear hA2 hC2 hi0 hsz0
      go_wp2_with fail
      refine (take_calls gS _ A c rs w _ HI.out (by rw [HGg.out]; exact Nat.le_refl _) (Kd.C_below HRi.out HB.out) HCi.out hlt hle HB.out HGS.out).mono ?_
      rintro e2 w2 ⟨rfl, hI2, hB2, hK2⟩
      have HI2 := z_ hI2
      have HB2 := z_ hB2
      clear hI2 hB2 hK2 HI HB
      go_wp2_with fail
      have hdr : rs.drop 64 = bs.drop (64 * (i + 1)) := by rw [HRS.out, List.drop_drop]; congr 1
      have hln : (bs.drop (64 * (i + 1))).length = rs.length - 64 := by rw [<- hdr, List.length_drop]
      have hrl := HRL.out
      refine ⟨⟨i + 1, A2, c - 64, by omega, by rw [hln], ?_, ?_, ?_, HB2⟩, ?_⟩
      · exact ⟨by rw [<- hdr]; exact HC2.out⟩
      · exact ⟨by rw [<- hdr]; exact HA2.out⟩
      · exact ⟨by show IsWords w2 gS 149 (Sums.of ((Sums.blocks Sums.first bs i).take (bs.drop (64 * i)))).list; rw [Sums.of_list _ (Sums.take_length _ _), <- HRS.out]; exact HI2.out⟩
      · show rs.length - 64 < rs.length; omega
    · have hd : decide ((64 : Int) <= (rs.length : Int)) = false := by simp; omega
      have HLT := z_ hlt
      clear hrl
      have hl64 : rs.length < 64 := by omega
      obtain ⟨W1, hW1⟩ : ∃ W1, W1 = wr.alloc (Obj.cells Tryd.zeroCells151 151) := ⟨_, rfl⟩
      have HTAIL : W1.heap[wr.heap.size]? = some (.cells (List.replicate 128 (Value.int .u8 0)).toArray 151 (0, 0)) := by rw [hW1]; exact heap_alloc_new wr _
      have hBW : Below wr.heap.size wr W1 := by rw [hW1]; exact below_alloc (Below.refl _ _) _
      have hcs := copy_src (Kd.C_below (Kd.C_below HRi.out HB.out) hBW) wr.heap.size
      go_wp2_with (refine wpList_copy_splice rfl (.tmp 21) (.tmp 22) 31 31 rfl 5 Tryd.underlying31 (by kernel_rfl) (some ⟨wr.heap.size, 0, none⟩) A 128 128 rs.length c rfl rfl wr.heap.size 0 (List.replicate 128 (.int .u8 0)) 151 (by rw [<- hW1]; exact HTAIL) (rs.map (Value.int .u8)) (by rw [List.length_map]; exact (Nat.min_eq_left (by omega)).symm) (by rw [<- hW1]; exact hcs) (by simp; omega) (by simp [Value.oneCell']) wr.heap.size _ (Below.refl _ _) (Nat.le_refl _) ?_; intro w2 HG2 hB2; have hTB := IsBytes.of_splice HG2.out; have hc2 := hTB.cell rs.length (by simp; omega); have hf2 := hTB.frozen rs.length; rw [pad_get rs 128 (by omega)] at hc2)
      refine (blocks_calls bs.length HBB.out _).mono ?_
      rintro e3 w3 ⟨rfl, hB3⟩
      have hT3 : IsBytes w3 wr.heap.size 151 (tail0 rs) := (hTB.set rs.length 128).below hB3 (by have := hTB.lt; simpa using this)
      rw [<- hW1] at hB2
      have hB4 : Below wr.heap.size wr w3 := ((hBW.trans hB2).setCell (p := ⟨wr.heap.size, rs.length, none⟩) (Nat.le_refl _) _).trans (hB3.mono (by have := hTB.lt; simpa using Nat.le_of_lt this))
      have HI3 : Aside0 (IsWords w3 gS 149 (Sums.blocks Sums.first bs i).list) := ⟨HI.out.below hB4 HI.out.lt⟩
      have HB3 : Aside0 (Below w.heap.size w w3) := ⟨HB.out.trans (hB4.mono HB.out.size)⟩
      obtain ⟨tg, htg⟩ : ∃ tg, tg = wr.heap.size := ⟨_, rfl⟩
      have hgt : gS < tg := by rw [htg]; exact HI.out.lt
      have hwt : w.heap.size <= tg := by rw [htg]; exact HB.out.size
      rw [<- htg] at hT3
      rw [<- htg]
      have HT3 := z_ hT3
      obtain ⟨d, hd2⟩ : ∃ d, d = tailBlocks bs.length := ⟨_, rfl⟩
      have hd12 : d = 1 \/ d = 2 := by rw [hd2]; unfold tailBlocks; split <;> simp
      obtain ⟨m, hm⟩ : ∃ m, m = 64 * d := ⟨_, rfl⟩
      have hmt : m = tailSize bs.length := by rw [hm, hd2]; rfl
      obtain ⟨nb, hnb⟩ : ∃ nb : Int, nb = (nblocks bs.length : Int) := ⟨_, rfl⟩
      have hnq : nb = (bs.length : Int) / 64 + (d : Int) := by rw [hnb, hd2]; unfold nblocks; omega
      rw [<- hnb]
      have e1 : nb - (bs.length : Int) / 64 = (d : Int) := by omega
      have e2 : (64 : Int) * (d : Int) = (m : Int) := by omega
      have e3 : IntKind.i64.wrap (d : Int) = (d : Int) := (by rw [IntKind.wrap_i64]; omega)
      have e4 : IntKind.i64.wrap (m : Int) = (m : Int) := (by rw [IntKind.wrap_i64]; omega)
      have e5 : (m : Int) <= 128 := by omega
      have e6 : (0 : Int) <= (m : Int) := by omega
      have HDT := z_ hd2
      have HM := z_ hm
      have HMT := z_ hmt
      have HD := z_ hd12
      have HHG := z_ hgt
      have HHW := z_ hwt
      clear hT3 htg hB4 hB3 hTB hc2 hf2 hB2 HG2 hBW hcs HTAIL hW1 hm hmt hd12 hnb hnq hd2 hgt hwt hd
      go_wp2_with fail
      obtain ⟨T, hT⟩ : ∃ T, T = tailLen m 8 (bs.length * 8) 1 (tail0 rs) := ⟨_, rfl⟩
      have HTT := z_ hT
      have ht0 : (tail0 rs).length = 128 := by unfold tail0; rw [List.length_set, List.length_append, List.length_replicate]; omega
      go_loopw [7, 8] (fun v7 v8 wq => ∃ (f x q : Nat) (ys : List Int), v7 = .int .i64 (q : Int) /\ v8 = .int .u64 (x : Int) /\ Aside0 (x < 256 ^ f) /\ Aside0 (q + f = 9 /\ 1 <= q /\ ys.length = 128) /\ Aside0 (tailLen m f x q ys = T) /\ Aside0 (IsBytes wq tg 151 ys) /\ Aside0 (IsWords wq gS 149 (Sums.blocks Sums.first bs i).list) /\ Aside0 (Below w.heap.size w wq)) (fun _ v8 _ => (intOf v8).toNat)
      case atStart => exact ⟨8, bs.length * 8, 1, tail0 rs, by go_num, by go_num, ⟨by have := HBB.out; omega⟩, ⟨by omega, by omega, ht0⟩, ⟨HTT.out.symm⟩, HT3, HI3, HB3⟩
      case round =>
        obtain ⟨f, x, q, ys, rfl, rfl, HX, HQ, HTl, HTq, HIq, HBq⟩ := hrel
        clear HT3 HI3 HB3 ht0 hT
        by_cases hx0 : 0 < x
        · have hd : decide ((0 : Int) < (x : Int)) = true := by simp; omega
          obtain ⟨f, rfl⟩ : ∃ f', f = f' + 1 := by
            cases f with
            | zero => have := HX.out; omega
            | succ f => exact ⟨f, rfl⟩
          have hq9 := HQ.out
          obtain ⟨mq, hmq⟩ : ∃ mq, mq = m - q := ⟨_, rfl⟩
          have hmv := HM.out
          have hdv := HD.out
          have g1 : (m : Int) - (q : Int) = (mq : Int) := by omega
          have g2 : IntKind.i64.wrap (mq : Int) = (mq : Int) := (by rw [IntKind.wrap_i64]; omega)
          have g3 : (mq : Int) < (m : Int) := by omega
          have hq7 : (q : Int) < 10 := by omega
          have hcq := HTq.out.cell mq (by omega)
          have hfq := HTq.out.frozen mq
          have HMQ := z_ hmq
          clear hmq hq9 hmv hdv
          go_wp2_with fail
          have hq9 := HQ.out
          have hxf := HX.out
          have e : (x : Int) % 256 = ((x % 256 : Nat) : Int) := by omega
          refine ⟨⟨f, x / 256, q + 1, ys.set mq ((x % 256 : Nat) : Int), by go_num, by go_num, ⟨by rw [Nat.pow_succ] at hxf; omega⟩, ⟨by omega, by omega, by rw [List.length_set]; omega⟩, ⟨?_⟩, ⟨?_⟩, ⟨?_⟩, ⟨HBq.out.setCell (by show w.heap.size <= tg; exact HHW.out) _⟩⟩, ?_⟩
          · rw [<- HTl.out, tailLen, if_pos hx0, <- HMQ.out]
          · rw [e]; exact HTq.out.set mq _
          · exact (KeepBut.refl _ tg none |>.set_ _ _).blk HIq.out (by have := HHG.out; omega) (by simp)
          · simp only [intOf]; omega
        · have hd : decide ((0 : Int) < (x : Int)) = false := by simp; omega
          obtain rfl : x = 0 := by omega
          have hTy : ys = T := by rw [<- HTl.out]; cases f <;> rfl
          subst hTy
          clear HTl HX
          have HL := z_ HQ.out.2.2
          clear HQ
          go_wp2_with fail
          have hmd := HM.out
          have hd12 := HD.out
          go_loopw [6] (fun v6 wz => ∃ (k n c : Nat) (A : Option Addr), k <= d /\ v6 = .slice A n c /\ n + 64 * k = m /\ n <= c /\ (k < d -> A = some ⟨tg, 64 * k, none⟩) /\ Aside0 (IsBytes wz tg 151 ys) /\ Aside0 (IsWords wz gS 149 (Sums.blocks (Sums.blocks Sums.first bs i) (ys.take m) k).list) /\ Aside0 (Below w.heap.size w wz)) (fun v6 _ => match v6 with | .slice _ n _ => n | _ => 0)
          case atStart => exact ⟨0, m, 128, _, by omega, rfl, by omega, by omega, fun _ => rfl, HTq, HIq, HBq⟩
          case round =>
            obtain ⟨k, n, c, A, hk, rfl, hnm, hnc, hA, HTz, HIz, HBz⟩ := hrel
            clear HTq HIq HBq
            by_cases hkd : k < d
            · obtain rfl := hA hkd
              clear hA
              obtain ⟨us, hus⟩ : ∃ us, us = (ys.drop (64 * k)).take n := ⟨_, rfl⟩
              have hyl := HL.out
              have hul : us.length = n := by rw [hus, List.length_take, List.length_drop]; omega
              have hCu := HTz.out.C (o := 64 * k) (n := n) (by omega) (by omega)
              rw [<- hus] at hCu
              have HCU := z_ hCu
              have HUS := z_ hus
              clear hCu hus
              obtain rfl := hul
              have hd : decide ((0 : Int) < (us.length : Int)) = true := by simp; omega
              have hu64 : (64 : Int) <= (us.length : Int) := by omega
              have hu65 : (us.length : Int) <= (c : Int) := by omega
              have hgS := HHG.out
              go_wp2_with fail
              refine (take_calls gS _ (some ⟨tg, 64 * k, none⟩) c us w _ HIz.out (by rw [HGg.out]; exact Nat.le_refl _) HCU.out hnc (by omega) (by omega) HBz.out HGS.out).mono ?_
              rintro e2 w2 ⟨rfl, hI2, hB2, hK2⟩
              have HI2 := z_ hI2
              have HB2 := z_ hB2
              have HT2 := z_ (show IsBytes w2 tg 151 ys from hK2.blk HTz.out (by omega) (by simp))
              clear hI2 hB2 hK2 HIz HBz HTz
              go_wp2_with fail
              have hus2 := HUS.out
              refine ⟨⟨k + 1, us.length - 64, c - 64, _, by omega, rfl, by omega, by omega, fun hk1 => ?_, HT2, ⟨?_⟩, HB2⟩, ?_⟩
              · rw [if_neg (by omega), show 64 * (k + 1) = 64 * k + 64 from by omega]
              · show IsWords _ gS 149 (Sums.of ((Sums.blocks (Sums.blocks Sums.first bs i) (ys.take m) k).take ((ys.take m).drop (64 * k)))).list
                rw [Sums.of_list _ (Sums.take_length _ _), List.drop_take, show m - 64 * k = us.length from by omega, <- hus2]
                exact HI2.out
              · show us.length - 64 < us.length
                omega
            · obtain rfl : k = d := by omega
              obtain rfl : n = 0 := by omega
              clear hA
              have hd : decide ((0 : Int) < ((0 : Nat) : Int)) = false := by decide
              clear hd
              have hmk : ∀ W : World, (Instr.makeSlice 31 (.int .i64 32) (.int .i64 32)).run Tryd.prog W = .ok (.slice (some ⟨W.heap.size, 0, none⟩) 32 32) (W.alloc (Obj.cells (((List.replicate 32 (0 : Int)).map (Value.int .u8)).toArray) 5 (0, 0))) := fun _ => by kernel_rfl
              have hd : decide ((0 : Int) < ((0 : Nat) : Int)) = false := by decide
              go_wp2_with fail
              obtain ⟨ss, hss⟩ : ∃ ss, ss = Sums.blocks (Sums.blocks Sums.first bs i) (ys.take m) k := ⟨_, rfl⟩
              have HSS := z_ hss
              rw [<- hss] at HIz
              obtain ⟨og, hog⟩ : ∃ og, og = wr.heap.size := ⟨_, rfl⟩
              have hog2 : og = wr.heap.size := hog
              rw [<- hog]
              have HOG : w.heap.size <= og := by rw [hog]; exact HBz.out.size
              have hgo : gS < og := by rw [hog]; exact HIz.out.lt
              have HOGG := z_ HOG
              have HGO := z_ hgo
              have hAl : Below wr.heap.size wr (wr.alloc (Obj.cells (((List.replicate 32 (0 : Int)).map (Value.int .u8)).toArray) 5 (0, 0))) := below_alloc (Below.refl _ _) _
              clear hss hog hd HOG hgo HTz hmk
              go_loopw [59] (fun v59 wq => ∃ j : Nat, j <= 32 /\ v59 = .int .i64 (j : Int) /\ Aside0 (IsBytes wq og 5 (outB ss.list j)) /\ Aside0 (IsWords wq gS 149 ss.list) /\ Aside0 (Below w.heap.size w wq)) (fun v59 _ => 32 - (intOf v59).toNat)
              case atStart => exact ⟨0, by omega, rfl, ⟨by rw [hog2]; exact heap_alloc_new wr _⟩, ⟨HIz.out.below hAl HIz.out.lt⟩, ⟨HBz.out.trans (hAl.mono HBz.out.size)⟩⟩
              case round =>
                obtain ⟨j, hj, rfl, HOj, HIj, HBj⟩ := hrel
                clear HIz HBz hAl hog2
                by_cases hj32 : j < 32
                · have hd : decide ((j : Int) < 32) = true := by simp; omega
                  obtain ⟨j4, hj4⟩ : ∃ j4, j4 = j / 4 := ⟨_, rfl⟩
                  have g1 : (j : Int) / 4 = (j4 : Int) := by omega
                  have g2 : j4 < 8 := by omega
                  have hcw := HIj.out.cell j4 (by show j4 < 8; omega)
                  have hlo : (outB ss.list j).length = 32 := outB_length _ _
                  have hco := HOj.out.cell j (by omega)
                  have hfo := HOj.out.frozen j
                  have HJ4 := z_ hj4
                  clear hj4 hlo
                  have hr4 : (j : Int) % 4 = 0 \/ (j : Int) % 4 = 1 \/ (j : Int) % 4 = 2 \/ (j : Int) % 4 = 3 := by omega
                  rcases hr4 with hr4 | hr4 | hr4 | hr4
                  · go_wp2_with fail
                    have hwb : wordByte ss.list j = ss.list[j4]?.getD 0 / 16777216 % 256 := by rw [wordByte_0 _ _ (by omega), <- HJ4.out]
                    refine ⟨⟨j + 1, by omega, by go_num, ⟨?_⟩, ⟨(KeepBut.refl _ og none |>.set_ _ _).blk HIj.out (by have := HGO.out; omega) (by simp)⟩, ⟨HBj.out.setCell (by show w.heap.size <= og; exact HOGG.out) _⟩⟩, by simp only [intOf]; omega⟩
                    rw [<- hwb]
                    exact HOj.out.set j _
                  · go_wp2_with fail
                    have hwb : wordByte ss.list j = ss.list[j4]?.getD 0 / 65536 % 256 := by rw [wordByte_1 _ _ (by omega), <- HJ4.out]
                    refine ⟨⟨j + 1, by omega, by go_num, ⟨?_⟩, ⟨(KeepBut.refl _ og none |>.set_ _ _).blk HIj.out (by have := HGO.out; omega) (by simp)⟩, ⟨HBj.out.setCell (by show w.heap.size <= og; exact HOGG.out) _⟩⟩, by simp only [intOf]; omega⟩
                    rw [<- hwb]
                    exact HOj.out.set j _
                  · go_wp2_with fail
                    have hwb : wordByte ss.list j = ss.list[j4]?.getD 0 / 256 % 256 := by rw [wordByte_2 _ _ (by omega), <- HJ4.out]
                    refine ⟨⟨j + 1, by omega, by go_num, ⟨?_⟩, ⟨(KeepBut.refl _ og none |>.set_ _ _).blk HIj.out (by have := HGO.out; omega) (by simp)⟩, ⟨HBj.out.setCell (by show w.heap.size <= og; exact HOGG.out) _⟩⟩, by simp only [intOf]; omega⟩
                    rw [<- hwb]
                    exact HOj.out.set j _
                  · go_wp2_with fail
                    have hwb : wordByte ss.list j = ss.list[j4]?.getD 0 % 256 := by rw [wordByte_3 _ _ (by omega), <- HJ4.out]
                    refine ⟨⟨j + 1, by omega, by go_num, ⟨?_⟩, ⟨(KeepBut.refl _ og none |>.set_ _ _).blk HIj.out (by have := HGO.out; omega) (by simp)⟩, ⟨HBj.out.setCell (by show w.heap.size <= og; exact HOGG.out) _⟩⟩, by simp only [intOf]; omega⟩
                    rw [<- hwb]
                    exact HOj.out.set j _
                · obtain rfl : j = 32 := by omega
                  have hd : decide (((32 : Nat) : Int) < 32) = false := by decide
                  go_wp2_with fail
                  go_ret
                  have hrl := HRL.out
                  have hi64 : i = bs.length / 64 := by omega
                  have hfin : outB ss.list 32 = shaSum bs := by
                    unfold shaSum
                    rw [HSS.out, HDT.out, HMT.out, hi64]
                    unfold tailOf
                    rw [<- hi64, <- HRS.out, <- HMT.out, <- HTT.out]
                  rw [<- hfin]
                  exact ⟨_, rfl, HOj.out.R HOGG.out (outB_length _ _) (by decide), HBj.out⟩
end Go.Proofs.YtdeneoknjeegbaaDoor.P
end
section
namespace Go.Proofs.YtdeneoknjeegbaaDoor.P
open Go.RowKit YtdeneoknjeegbaaDoorW.PrintWords YtdeneoknjeegbaaDoorW.PrintLast YtdeneoknjeegbaaDoorW.PrintMore
theorem shaSum_length (bs : List Int) : (shaSum bs).length = 32 := outB_length _ _
def sha_Sum.f (l0 : List Int) : Option (List Int) := if l0.length <= 140737488355328 then some (shaSum l0) else none
def sha_Cut.f (a0 : Int) (l1 : List Int) : Option (List Int) := if l1.length <= 140737488355328 then some ((shaSum l1).take (mn (mx a0 0) 32).toNat) else none
attribute [local go_sem] max2_int min2_int max_two min_two
set_option maxHeartbeats 1000000 in
set_option maxRecDepth 100000 in
theorem sha_Cut.calls (a0 : Int) (A1 : Option Addr) (c1 : Nat) (l1 : List Int) (r : List Int) (w : World) (hr1 : Kd.C (Kd.int .u8) w A1 l1.length l1) (hc1 : l1.length <= c1) (hGS : GlobS w) (h : sha_Cut.f a0 l1 = some r) :
    Calls Tryd.prog 93 #[.int .i64 a0, .slice A1 l1.length c1] w fun e w' => ∃ v0_ : Value, e = .returned (v0_) /\ Kd.V (Kd.int .u8) 5 w' w.heap.size (fun k_ => w.heap.size <= k_) v0_ r /\ Below w.heap.size w w' := by
  unfold sha_Cut.f at h
  split at h
  case isFalse => cases h
  case isTrue hb =>
    obtain rfl := Option.some.inj h
    obtain ⟨j, hj⟩ : ∃ j, j = mx a0 0 := ⟨_, rfl⟩
    obtain ⟨n, hn⟩ : ∃ n, n = mn j 32 := ⟨_, rfl⟩
    have e1 : (if a0 < 0 then 0 else a0) = j := hj.symm
    have e2 : (if 32 < j then 32 else j) = n := hn.symm
    have hn0 : 0 <= n := by rw [<- e2, <- e1]; split <;> split <;> omega
    have hn32 : n <= 32 := by rw [<- e2]; split <;> omega
    obtain ⟨m, rfl⟩ : ∃ m : Nat, n = (m : Int) := ⟨n.toNat, by omega⟩
    rw [<- hj, <- hn, Int.toNat_natCast]
    have HR := z_ hr1
    have HC := z_ hc1
    have HGS := z_ hGS
    clear h hr1 hc1 hGS hj hn
    go_enter Tryd.func93, Tryd.ntmps93
    go_wp2_with fail
    refine (sum_any A1 c1 l1 w HR.out HC.out hb HGS.out).mono ?_
    rintro e w1 ⟨v, rfl, hR1, hB1⟩
    obtain ⟨A, c, rfl⟩ := Kd.R_slice hR1
    have hlc := (Kd.R_reads' hR1).2.1
    have HR1 := z_ hR1
    have HB1 := z_ hB1
    clear hR1 hB1
    have hl32 : (shaSum l1).length = 32 := shaSum_length l1
    have hmc : (m : Int) <= (c : Int) := by omega
    have hm32 : m <= 32 := by omega
    go_wp2_with fail
    go_ret
    have hR2 : Kd.R (Kd.int .u8) 5 w1 w.heap.size (fun k_ => w.heap.size <= k_) (.slice A m c) ((shaSum l1).take m) := Kd.R_mono (Kd.R_bound (Kd.R_take HR1.out (by omega))) (fun k hk => hk.2.1)
    have hlm : ((shaSum l1).take m).length = m := by rw [List.length_take]; omega
    have hV := (Kd.V_at (Kd.R_V (base' := w.heap.size) hR2)).2.2
    have hV2 := Kd.V_mk (base := w.heap.size) (e := 5) (Nat.le_refl _) hV
    rw [hlm] at hV2
    exact ⟨_, rfl, hV2, HB1.out⟩
end Go.Proofs.YtdeneoknjeegbaaDoor.P
end
section
namespace Go.Proofs.YtdeneoknjeegbaaDoor.P
open Go.RowKit YtdeneoknjeegbaaDoorW.PrintWords YtdeneoknjeegbaaDoorW.PrintLast YtdeneoknjeegbaaDoorW.PrintMore
attribute [local go_sem] max2_int min2_int max_two min_two max_three min_three max_four min_four
def texts_Hash.f (k : Nat) (a0 : Int) (a1 : Int) (l2 : List (List Int)) : Option (List Int) := (texts_Text.f k a1 l2).bind fun bt120 => (if bt120.2 = 0 then ((sha_Cut.f a0 bt120.1).bind fun t124 => (some t124)) else (some ([] : List Int)))
theorem texts_Hash.mono : ∀ a0 a1 a2 k, LeO (texts_Hash.f k a0 a1 a2) (texts_Hash.f (k + 1) a0 a1 a2) := by
  intro a0 a1 a2 k
  unfold texts_Hash.f
  repeat' first
      | (with_reducible exact texts_Text.mono _ _ _)
      | (with_reducible exact LeO.refl _)
      | (with_reducible exact LeO.none _)
      | (with_reducible refine LeO.ite ?_ ?_)
      | (with_reducible refine LeO.bind ?_ (fun _ => ?_))
      | exact texts_Text.mono _ _ _
      | exact LeO.none _
      | refine LeO.ite ?_ ?_
      | refine LeO.bind ?_ (fun _ => ?_)
set_option maxHeartbeats 8000000 in
set_option maxRecDepth 100000 in
theorem texts_Hash.calls (k : Nat) (a0 : Int) (a1 : Int) (A2 : Option Addr) (c2 : Nat) (l2 : List (List Int)) (r : List Int) (w : World) (hr2 : Kd.C (Kd.slice 5 (Kd.int .u8)) w A2 l2.length l2) (hc2 : l2.length <= c2) (hGS : GlobS w) (h : texts_Hash.f k a0 a1 l2 = some r) :
    Calls Tryd.prog 70 #[.int .i64 a0, .int .i64 a1, .slice A2 l2.length c2] w fun e w' => ∃ v0_ : Value, e = .returned (v0_) /\ Kd.V (Kd.int .u8) 5 w' w.heap.size (fun k_ => (w.heap.size <= k_)) v0_ r /\ Below w.heap.size w w' := by
  have HGS := z_ hGS
  clear hGS
  have HR2 := z_ hr2
  have HC2 := z_ hc2
  clear hr2 hc2
  have HB := z_ (Below.refl w.heap.size w)
  have H : ((texts_Text.f k a1 l2).bind fun bt120 => (if bt120.2 = 0 then ((sha_Cut.f a0 bt120.1).bind fun t124 => (some t124)) else (some ([] : List Int)))) = some r := h
  clear h
  replace H := Option.bind_eq_some_iff.mp H
  obtain ⟨⟨t120, t121⟩, A40, H⟩ := H
  replace H : (if t121 = 0 then ((sha_Cut.f a0 t120).bind fun t124 => (some t124)) else (some ([] : List Int))) = some r := H
  have A4 := z_ A40
  clear A40
  by_cases c5 : t121 = 0
  · rw [if_pos c5] at H
    have c5b0 : (t121 == 0) = true := beq_iff_eq.mpr c5
    have c5b1 : (t121 != 0) = false := bne_eq_false_iff_eq.mpr c5
    clear c5
    replace H := Option.bind_eq_some_iff.mp H
    obtain ⟨t124, A60, H⟩ := H
    replace H : (some t124) = some r := H
    have A6 := z_ A60
    clear A60
    obtain rfl := Option.some.inj H
    go_enter Tryd.func70, Tryd.ntmps70
    go_wp2_with (first | ((with_reducible refine gate_callee (f := 92) rfl ?_); refine goesL_ (some 12) rfl rfl Tryd.func92 (by kernel_rfl) rfl #[.int .i64 a1, .slice A2 l2.length c2] rfl (by (try simp only [List.map_toArray, List.map_cons, List.map_nil]); first | done | rfl | (simp only [List.length_drop, List.length_take]; rfl)) ?_; (with_reducible refine (texts_Text.calls k a1 _ _ l2 t120 t121 _ ?side1 ?side2 A4.out).mono ?_); (case side1 => repeat (first | exact HR2.out | (with_reducible refine Kd.C_alloc ?_ _) | (with_reducible refine Kd.C_drewN ?_ _) | (with_reducible refine Kd.C_drew ?_))); (case side2 => exact HC2.out); rintro e w7 ⟨v122, rfl, ho0, hb⟩; refine ⟨_, rfl, ?_⟩; have n0_ := z_ (Kd.R_lower (Kd.R_newM (M := fun k_ => (w.heap.size <= k_)) ho0 (below_size (by repeat (first | (with_reducible first | exact HB.out | apply below_alloc | apply pw_below_drewN | apply below_drew1) | exact HB.out))) (fun k_ h_ => h_)) (below_size (by repeat (first | (with_reducible first | exact HB.out | apply below_alloc | apply pw_below_drewN | apply below_drew1) | exact HB.out)))); have n1_ := z_ (below_step (by repeat (first | (with_reducible first | exact HB.out | apply below_alloc | apply pw_below_drewN | apply below_drew1) | exact HB.out)) hb); clear HB; have HO123 := n0_; have HB := n1_; clear n0_ n1_; (try clear hb); (try clear hb2); (try clear hk); (try clear hi); (try clear ho0); obtain ⟨Ao8, co8, eo8⟩ := Kd.R_slice HO123.out; subst eo8) | ((with_reducible refine gate_callee (f := 93) rfl ?_); refine goesL_ (some 19) rfl rfl Tryd.func93 (by kernel_rfl) rfl #[.int .i64 a0, .slice Ao8 t120.length co8] rfl (by (try simp only [List.map_toArray, List.map_cons, List.map_nil]); first | done | rfl | (simp only [List.length_drop, List.length_take]; rfl)) ?_; (with_reducible refine (sha_Cut.calls a0 _ _ t120 t124 _ ?side1 ?side2 (by first | (with_reducible exact HGS.out) | exact GlobS.of HGS.out (by repeat (first | (with_reducible first | exact HB.out | apply below_alloc | apply pw_below_drewN | apply below_drew1) | exact HB.out)) | exact GlobS.of HGS.out (by repeat (first | exact Below.refl _ _ | apply below_alloc | apply pw_below_drewN | apply below_drew1))) A6.out).mono ?_); (case side1 => repeat (first | exact (Kd.R_reads' HO123.out).2.2 | (with_reducible refine Kd.C_alloc ?_ _) | (with_reducible refine Kd.C_drewN ?_ _) | (with_reducible refine Kd.C_drew ?_))); (case side2 => exact (Kd.R_reads' HO123.out).2.1); rintro e w9 ⟨v125, rfl, ho0, hb⟩; refine ⟨_, rfl, ?_⟩; have n0_ := z_ (Kd.R_below (by (with_reducible repeat (first | apply Kd.R_alloc | apply Kd.R_drewN | apply Kd.R_drew)); exact HO123.out) hb); have n1_ := z_ (Kd.V_lower (Kd.V_mono (ok' := fun k_ => (w.heap.size <= k_) /\ some k_ ≠ (.slice Ao8 t120.length co8 : Value).ownBlock) ho0 (fun k_ hk_ => ⟨(Nat.le_trans (below_size (by repeat (first | (with_reducible first | exact HB.out | apply below_alloc | apply pw_below_drewN | apply below_drew1) | exact HB.out))) hk_), (Kd.fresh' (Kd.R_lt (by (with_reducible repeat (first | apply Kd.R_alloc | apply Kd.R_drewN | apply Kd.R_drew)); exact HO123.out)) k_ hk_)⟩)) (below_size (by repeat (first | (with_reducible first | exact HB.out | apply below_alloc | apply pw_below_drewN | apply below_drew1) | exact HB.out)))); have n2_ := z_ (below_step (by repeat (first | (with_reducible first | exact HB.out | apply below_alloc | apply pw_below_drewN | apply below_drew1) | exact HB.out)) hb); clear HO123; clear HB; have HO123 := n0_; have HO126 := n1_; have HB := n2_; clear n0_ n1_ n2_; (try clear hb); (try clear hb2); (try clear hk); (try clear hi); (try clear ho0)))
    go_ret
    exact ⟨_, by first | rfl | (simp [errW_none, errW_some] <;> rfl) | (simp [*, errW_none, errW_some] <;> rfl), by (with_reducible repeat (first | apply Kd.V_alloc | apply Kd.V_drewN | apply Kd.V_drew)); exact Kd.V_mono HO126.out (fun _ hk => hk.1), by repeat (first | (with_reducible first | exact HB.out | apply below_alloc | apply pw_below_drewN | apply below_drew1) | exact HB.out)⟩
  · rw [if_neg c5] at H
    have c5b0 : (t121 == 0) = false := beq_eq_false_iff_ne.mpr c5
    have c5b1 : (t121 != 0) = true := bne_iff_ne.mpr c5
    obtain rfl := Option.some.inj H
    go_enter Tryd.func70, Tryd.ntmps70
    go_wp2_with (first | ((with_reducible refine gate_callee (f := 92) rfl ?_); refine goesL_ (some 12) rfl rfl Tryd.func92 (by kernel_rfl) rfl #[.int .i64 a1, .slice A2 l2.length c2] rfl (by (try simp only [List.map_toArray, List.map_cons, List.map_nil]); first | done | rfl | (simp only [List.length_drop, List.length_take]; rfl)) ?_; (with_reducible refine (texts_Text.calls k a1 _ _ l2 t120 t121 _ ?side1 ?side2 A4.out).mono ?_); (case side1 => repeat (first | exact HR2.out | (with_reducible refine Kd.C_alloc ?_ _) | (with_reducible refine Kd.C_drewN ?_ _) | (with_reducible refine Kd.C_drew ?_))); (case side2 => exact HC2.out); rintro e w10 ⟨v122, rfl, ho0, hb⟩; refine ⟨_, rfl, ?_⟩; have n0_ := z_ (Kd.R_lower (Kd.R_newM (M := fun k_ => (w.heap.size <= k_)) ho0 (below_size (by repeat (first | (with_reducible first | exact HB.out | apply below_alloc | apply pw_below_drewN | apply below_drew1) | exact HB.out))) (fun k_ h_ => h_)) (below_size (by repeat (first | (with_reducible first | exact HB.out | apply below_alloc | apply pw_below_drewN | apply below_drew1) | exact HB.out)))); have n1_ := z_ (below_step (by repeat (first | (with_reducible first | exact HB.out | apply below_alloc | apply pw_below_drewN | apply below_drew1) | exact HB.out)) hb); clear HB; have HO123 := n0_; have HB := n1_; clear n0_ n1_; (try clear hb); (try clear hb2); (try clear hk); (try clear hi); (try clear ho0)))
    go_ret
    exact ⟨_, by first | rfl | (simp [errW_none, errW_some] <;> rfl) | (simp [*, errW_none, errW_some] <;> rfl), (by first | exact Kd.V_nil _ _ _ _ _ | exact Kd.R_V (by first | exact Kd.R_nil _ _ _ _ _ | exact Kd.N_nil _ _ _ _ _ | exact Kd.Q_nil _ _ _ _ _ | exact Kd.S_nil _ _ _ _ _)), by repeat (first | (with_reducible first | exact HB.out | apply below_alloc | apply pw_below_drewN | apply below_drew1) | exact HB.out)⟩
end Go.Proofs.YtdeneoknjeegbaaDoor.P
end
section
namespace Go.Proofs.YtdeneoknjeegbaaDoor.P
open Go.RowKit YtdeneoknjeegbaaDoorW.PrintWords YtdeneoknjeegbaaDoorW.PrintLast YtdeneoknjeegbaaDoorW.PrintMore
theorem IsBytes.V {w : World} {g t e n base : Nat} {xs : List Int} (h : IsBytes w g t xs) (hb : base <= g) (hn : xs.length = n) (hm : n <= 9223372036854775807) : Kd.V (Kd.int .u8) e w base (fun k_ => base <= k_) (.slice (some ⟨g, 0, none⟩) n n) xs := by
  subst hn
  refine Kd.V_mk (Nat.le_refl _) ?_
  intro W' hW
  have h2 : IsBytes W' g t xs := (hW g hb h.lt).trans h
  have := h2.C (o := 0) (n := xs.length) (by omega) hm
  simpa using this
def numRun : Nat -> Int -> List Int -> List Int
  | 0, _, ys => ys
  | i + 1, x, ys => numRun i (x / 256) (ys.set i (x % 256))
def numBytes (n : Int) : List Int := numRun 8 n (List.replicate 8 0)
def texts_Number.f (a0 : Int) : Option (List Int) := some (numBytes a0)
set_option maxHeartbeats 1000000 in
set_option maxRecDepth 100000 in
theorem texts_Number.calls (a0 : Int) (r : List Int) (w : World) (h : texts_Number.f a0 = some r) :
    Calls Tryd.prog 94 #[.int .i64 a0] w fun e w' => ∃ v0_ : Value, e = .returned (v0_) /\ Kd.V (Kd.int .u8) 5 w' w.heap.size (fun k_ => w.heap.size <= k_) v0_ r /\ Below w.heap.size w w' := by
  obtain rfl := Option.some.inj h
  clear h
  go_enter Tryd.func94, Tryd.ntmps94
  go_wp2_with fail
  obtain ⟨g, hg⟩ : ∃ g, g = w.heap.size := ⟨_, rfl⟩
  rw [<- hg]
  have HG := z_ hg
  have hge : w.heap.size <= g := by omega
  clear hg
  go_loopw [0, 4] (fun v0 v4 wr => ∃ (i : Nat) (x : Int) (ys : List Int), i <= 8 /\ v0 = .int .i64 x /\ v4 = .int .i64 (i : Int) /\ Aside0 (ys.length = 8) /\ Aside0 (numRun i x ys = numBytes a0) /\ Aside0 (IsBytes wr g 142 ys) /\ Aside0 (Below w.heap.size w wr)) (fun _ v4 _ => (intOf v4).toNat)
  case atStart => exact ⟨8, a0, List.replicate 8 0, by omega, rfl, rfl, ⟨by rfl⟩, ⟨rfl⟩, ⟨by rw [HG.out]; exact heap_alloc_new w _⟩, ⟨below_alloc (Below.refl _ _) _⟩⟩
  case round =>
    obtain ⟨i, x, ys, hi, rfl, rfl, HL, HT, HI, HB⟩ := hrel
    by_cases hi0 : 0 < i
    · have hd : decide ((0 : Int) < (i : Int)) = true := by simp; omega
      obtain ⟨i, rfl⟩ : ∃ j, i = j + 1 := ⟨i - 1, by omega⟩
      have e1 : ((i + 1 : Nat) : Int) - 1 = (i : Int) := by omega
      have e2 : IntKind.i64.wrap (i : Int) = (i : Int) := by rw [IntKind.wrap_i64]; omega
      have hi8 : (i : Int) < 8 := by omega
      have hc := HI.out.cell i (by have := HL.out; omega)
      have hf := HI.out.frozen i
      go_wp2_with fail
      refine ⟨⟨i, x / 256, ys.set i (x % 256), by omega, rfl, rfl, ⟨by rw [List.length_set]; exact HL.out⟩, ⟨HT.out⟩, ⟨HI.out.set i _⟩, ⟨HB.out.setCell (by show w.heap.size <= g; exact hge) _⟩⟩, by simp only [intOf]; omega⟩
    · obtain rfl : i = 0 := by omega
      have hd : decide ((0 : Int) < ((0 : Nat) : Int)) = false := by decide
      go_wp2_with fail
      go_ret
      exact ⟨_, rfl, by rw [<- HT.out]; exact HI.out.V hge HL.out (by decide), HB.out⟩
end Go.Proofs.YtdeneoknjeegbaaDoor.P
end
section
namespace Go.Proofs.YtdeneoknjeegbaaDoor.P
open Go.RowKit YtdeneoknjeegbaaDoorW.PrintWords YtdeneoknjeegbaaDoorW.PrintLast YtdeneoknjeegbaaDoorW.PrintMore
attribute [local go_sem] max2_int min2_int max_two min_two max_three min_three max_four min_four
def arena_LeafHash.f (k : Nat) (a0 : Int) (l1 : List Int) (l2 : List Int) (a3 : Int) : Option (List Int) := (texts_Number.f a3).bind fun t127 => ((texts_Hash.f k a0 1 (([l1, l2, t127] : List (List Int)))).bind fun t133 => (some t133))
theorem arena_LeafHash.mono : ∀ a0 a1 a2 a3 k, LeO (arena_LeafHash.f k a0 a1 a2 a3) (arena_LeafHash.f (k + 1) a0 a1 a2 a3) := by
  intro a0 a1 a2 a3 k
  unfold arena_LeafHash.f
  repeat' first
      | (with_reducible exact texts_Hash.mono _ _ _ _)
      | (with_reducible exact LeO.refl _)
      | (with_reducible exact LeO.none _)
      | (with_reducible refine LeO.ite ?_ ?_)
      | (with_reducible refine LeO.bind ?_ (fun _ => ?_))
      | exact texts_Hash.mono _ _ _ _
      | exact LeO.none _
      | refine LeO.ite ?_ ?_
      | refine LeO.bind ?_ (fun _ => ?_)
set_option maxHeartbeats 8000000 in
set_option maxRecDepth 100000 in
theorem arena_LeafHash.calls (k : Nat) (a0 : Int) (P1_ : Nat -> Prop) (A1 : Option Addr) (c1 : Nat) (l1 : List Int) (P2_ : Nat -> Prop) (A2 : Option Addr) (c2 : Nat) (l2 : List Int) (a3 : Int) (r : List Int) (w : World) (hs1 : Kd.V (Kd.int .u8) 5 w w.heap.size (fun k_ => P1_ k_) (.slice A1 l1.length c1) l1) (hs2 : Kd.V (Kd.int .u8) 5 w w.heap.size (fun k_ => P2_ k_) (.slice A2 l2.length c2) l2) (hGS : GlobS w) (h : arena_LeafHash.f k a0 l1 l2 a3 = some r) :
    Calls Tryd.prog 73 #[.int .i64 a0, .slice A1 l1.length c1, .slice A2 l2.length c2, .int .i64 a3] w fun e w' => ∃ v0_ : Value, e = .returned (v0_) /\ Kd.V (Kd.int .u8) 5 w' w.heap.size (fun k_ => ((P1_ k_ \/ P2_ k_) \/ w.heap.size <= k_)) v0_ r /\ Below w.heap.size w w' := by
  have HGS := z_ hGS
  clear hGS
  have HO1 := z_ (show Kd.V (Kd.int .u8) 5 w w.heap.size (fun k_ => ((P1_ k_ \/ P2_ k_) \/ w.heap.size <= k_)) (.slice A1 l1.length c1) l1 from Kd.V_mono hs1 (fun k_ hk => .inl (.inl hk)))
  have HO2 := z_ (show Kd.V (Kd.int .u8) 5 w w.heap.size (fun k_ => ((P1_ k_ \/ P2_ k_) \/ w.heap.size <= k_)) (.slice A2 l2.length c2) l2 from Kd.V_mono hs2 (fun k_ hk => .inl (.inr hk)))
  have HB := z_ (Below.refl w.heap.size w)
  have H : ((texts_Number.f a3).bind fun t127 => ((texts_Hash.f k a0 1 (([l1, l2, t127] : List (List Int)))).bind fun t133 => (some t133))) = some r := h
  clear h
  replace H := Option.bind_eq_some_iff.mp H
  obtain ⟨t127, A50, H⟩ := H
  replace H : ((texts_Hash.f k a0 1 (([l1, l2, t127] : List (List Int)))).bind fun t133 => (some t133)) = some r := H
  have A5 := z_ A50
  clear A50
  obtain ⟨y130, hy130⟩ : ∃ y_ : List (List Int), y_ = (([l1, l2, t127] : List (List Int))) := ⟨_, rfl⟩
  replace H : ((texts_Hash.f k a0 1 y130).bind fun t133 => (some t133)) = some r := by first | (rw [hy130]; with_reducible exact H) | (have H2_ := (Option.bind_some _ _).symm.trans H; rw [hy130]; with_reducible exact H2_) | (have H2_ := (Option.bind_some _ _).symm.trans H; with_reducible exact H2_) | with_reducible exact H | (rw [hy130]; exact H) | exact H
  have Ny130 := z_ hy130
  clear hy130
  replace H := Option.bind_eq_some_iff.mp H
  obtain ⟨t133, A60, H⟩ := H
  replace H : (some t133) = some r := H
  have A6 := z_ A60
  clear A60
  obtain rfl := Option.some.inj H
  go_enter Tryd.func73, Tryd.ntmps73
  go_wp2_with (first | ((with_reducible refine gate_callee (f := 94) rfl ?_); refine goesL_ (some 13) rfl rfl Tryd.func94 (by kernel_rfl) rfl #[.int .i64 a3] rfl (by (try simp only [List.map_toArray, List.map_cons, List.map_nil]); first | done | rfl | (simp only [List.length_drop, List.length_take]; rfl)) ?_; (with_reducible refine (texts_Number.calls a3 t127 _ A5.out).mono ?_); rintro e w7 ⟨v128, rfl, ho0, hb⟩; refine ⟨_, rfl, ?_⟩; have n0_ := z_ (Kd.V_below (by (with_reducible repeat (first | apply Kd.V_alloc | apply Kd.V_drewN | apply Kd.V_drew)); exact HO1.out) hb); have n1_ := z_ (Kd.V_below (by (with_reducible repeat (first | apply Kd.V_alloc | apply Kd.V_drewN | apply Kd.V_drew)); exact HO2.out) hb); have n2_ := z_ (Kd.V_lower (Kd.V_mono (ok' := fun k_ => ((P1_ k_ \/ P2_ k_) \/ w.heap.size <= k_)) ho0 (fun k_ hk_ => (.inr (Nat.le_trans (below_size (by repeat (first | (with_reducible first | exact HB.out | apply below_alloc | apply pw_below_drewN | apply below_drew1) | exact HB.out))) hk_)))) (below_size (by repeat (first | (with_reducible first | exact HB.out | apply below_alloc | apply pw_below_drewN | apply below_drew1) | exact HB.out)))); have n3_ := z_ (below_step (by repeat (first | (with_reducible first | exact HB.out | apply below_alloc | apply pw_below_drewN | apply below_drew1) | exact HB.out)) hb); clear HO1; clear HO2; clear HB; have HO1 := n0_; have HO2 := n1_; have HO129 := n2_; have HB := n3_; clear n0_ n1_ n2_ n3_; (try clear hb); (try clear hb2); (try clear hk); (try clear hi); (try clear ho0); obtain ⟨Ao8, co8, eo8⟩ := Kd.V_slice HO129.out; subst eo8) | ((with_reducible refine gate_dst (N := 14) rfl ?_); refine Kd.N_lit (Kd.slice 5 (Kd.int .u8)) _ 31 ?hg (N' := 14) ?hd (xs := ([l1, l2, t127] : List (List Int))) (inner := [.slice A1 l1.length c1, .slice A2 l2.length c2, .slice Ao8 t127.length co8]) (ok := (fun k_ => ((P1_ k_ \/ P2_ k_) \/ w.heap.size <= k_))) (okp := (fun k_ => ((P1_ k_ \/ P2_ k_) \/ w.heap.size <= k_))) ?hr ?hp (fun _ hk => hk) ((show ∀ k_, w7.heap.size <= k_ -> (fun k_ => ((P1_ k_ \/ P2_ k_) \/ w.heap.size <= k_)) k_ from fun k_ hk => (.inr (Nat.le_trans (below_size (by repeat (first | (with_reducible first | exact HB.out | apply below_alloc | apply pw_below_drewN | apply below_drew1) | exact HB.out))) hk))) _ (Nat.le_refl _)) (Below.refl _ _) (Nat.le_refl _) (by simp) ?_; (case hd => rfl); (case hg => rfl); (case hr => first | (go_simp; done) | (go_simp; rfl)); (case hp => exact (Reps.one (show Kd.FK (Kd.slice 5 (Kd.int .u8)) _ _ l1 [.slice A1 l1.length c1] from (Kd.FK_slice_mk (Kd.V_reads' (Kd.V_mono (ok' := (fun k_ => ((P1_ k_ \/ P2_ k_) \/ w.heap.size <= k_))) (HO1.out) (fun k_ hk => hk))).2.1 (Kd.V_F (Kd.V_mono (ok' := (fun k_ => ((P1_ k_ \/ P2_ k_) \/ w.heap.size <= k_))) (HO1.out) (fun k_ hk => hk))))) (Reps.one (show Kd.FK (Kd.slice 5 (Kd.int .u8)) _ _ l2 [.slice A2 l2.length c2] from (Kd.FK_slice_mk (Kd.V_reads' (Kd.V_mono (ok' := (fun k_ => ((P1_ k_ \/ P2_ k_) \/ w.heap.size <= k_))) (HO2.out) (fun k_ hk => hk))).2.1 (Kd.V_F (Kd.V_mono (ok' := (fun k_ => ((P1_ k_ \/ P2_ k_) \/ w.heap.size <= k_))) (HO2.out) (fun k_ hk => hk))))) (Reps.one (show Kd.FK (Kd.slice 5 (Kd.int .u8)) _ _ t127 [.slice Ao8 t127.length co8] from (Kd.FK_slice_mk (Kd.V_reads' (Kd.V_mono (ok' := (fun k_ => ((P1_ k_ \/ P2_ k_) \/ w.heap.size <= k_))) (HO129.out) (fun k_ hk => hk))).2.1 (Kd.V_F (Kd.V_mono (ok' := (fun k_ => ((P1_ k_ \/ P2_ k_) \/ w.heap.size <= k_))) (HO129.out) (fun k_ hk => hk))))) (Reps.none _ _))))); intro v131 w9 ho10 hb hg_ hnew_; clear hg_ hnew_; (first | rw [<- Ny130.out] at ho10 | (simp only [Int.reduceToNat] at ho10; rw [<- Ny130.out] at ho10)); have n0_ := z_ (Kd.V_elder' (by (with_reducible repeat (first | apply Kd.V_alloc | apply Kd.V_drewN | apply Kd.V_drew)); exact HO1.out) (Kd.N_base ho10) hb); have n1_ := z_ (Kd.V_elder' (by (with_reducible repeat (first | apply Kd.V_alloc | apply Kd.V_drewN | apply Kd.V_drew)); exact HO2.out) (Kd.N_base ho10) hb); have n2_ := z_ (Kd.V_elder' (by (with_reducible repeat (first | apply Kd.V_alloc | apply Kd.V_drewN | apply Kd.V_drew)); exact HO129.out) (Kd.N_base ho10) hb); have n3_ := z_ (Kd.N_lower ho10 (below_size (by repeat (first | (with_reducible first | exact HB.out | apply below_alloc | apply pw_below_drewN | apply below_drew1) | exact HB.out)))); have n4_ := z_ (below_step (by repeat (first | (with_reducible first | exact HB.out | apply below_alloc | apply pw_below_drewN | apply below_drew1) | exact HB.out)) hb); clear HO1; clear HO2; clear HO129; clear HB; have HO1 := n0_; have HO2 := n1_; have HO129 := n2_; have HO132 := n3_; have HB := n4_; clear n0_ n1_ n2_ n3_ n4_; clear hb ho10; obtain ⟨Ao11, co11, eo11⟩ := Kd.N_slice HO132.out; subst eo11) | ((with_reducible refine gate_callee (f := 70) rfl ?_); refine goesL_ (some 15) rfl rfl Tryd.func70 (by kernel_rfl) rfl #[.int .i64 a0, .int .i64 1, .slice Ao11 y130.length co11] rfl (by (try simp only [List.map_toArray, List.map_cons, List.map_nil]); first | done | rfl | (simp only [List.length_drop, List.length_take]; rfl)) ?_; (with_reducible refine (texts_Hash.calls k a0 1 _ _ y130 t133 _ ?side1 ?side2 (by first | (with_reducible exact HGS.out) | exact GlobS.of HGS.out (by repeat (first | (with_reducible first | exact HB.out | apply below_alloc | apply pw_below_drewN | apply below_drew1) | exact HB.out)) | exact GlobS.of HGS.out (by repeat (first | exact Below.refl _ _ | apply below_alloc | apply pw_below_drewN | apply below_drew1))) A6.out).mono ?_); (case side1 => repeat (first | exact (Kd.N_reads' HO132.out).2.2 | (with_reducible refine Kd.C_alloc ?_ _) | (with_reducible refine Kd.C_drewN ?_ _) | (with_reducible refine Kd.C_drew ?_))); (case side2 => exact (Kd.N_reads' HO132.out).2.1); rintro e w12 ⟨v134, rfl, ho0, hb⟩; refine ⟨_, rfl, ?_⟩; have n0_ := z_ (Kd.V_below (by (with_reducible repeat (first | apply Kd.V_alloc | apply Kd.V_drewN | apply Kd.V_drew)); exact HO1.out) hb); have n1_ := z_ (Kd.V_below (by (with_reducible repeat (first | apply Kd.V_alloc | apply Kd.V_drewN | apply Kd.V_drew)); exact HO2.out) hb); have n2_ := z_ (Kd.V_below (by (with_reducible repeat (first | apply Kd.V_alloc | apply Kd.V_drewN | apply Kd.V_drew)); exact HO129.out) hb); have n3_ := z_ (Kd.N_below (by (with_reducible repeat (first | apply Kd.N_alloc | apply Kd.N_drewN | apply Kd.N_drew)); exact HO132.out) hb); have n4_ := z_ (Kd.V_lower (Kd.V_mono (ok' := fun k_ => ((P1_ k_ \/ P2_ k_) \/ w.heap.size <= k_) /\ some k_ ≠ (.slice Ao11 y130.length co11 : Value).ownBlock) ho0 (fun k_ hk_ => ⟨(.inr (Nat.le_trans (below_size (by repeat (first | (with_reducible first | exact HB.out | apply below_alloc | apply pw_below_drewN | apply below_drew1) | exact HB.out))) hk_)), (Kd.fresh' (Kd.N_lt (by (with_reducible repeat (first | apply Kd.N_alloc | apply Kd.N_drewN | apply Kd.N_drew)); exact HO132.out)) k_ hk_)⟩)) (below_size (by repeat (first | (with_reducible first | exact HB.out | apply below_alloc | apply pw_below_drewN | apply below_drew1) | exact HB.out)))); have n5_ := z_ (below_step (by repeat (first | (with_reducible first | exact HB.out | apply below_alloc | apply pw_below_drewN | apply below_drew1) | exact HB.out)) hb); clear HO1; clear HO2; clear HO129; clear HO132; clear HB; have HO1 := n0_; have HO2 := n1_; have HO129 := n2_; have HO132 := n3_; have HO135 := n4_; have HB := n5_; clear n0_ n1_ n2_ n3_ n4_ n5_; (try clear hb); (try clear hb2); (try clear hk); (try clear hi); (try clear ho0)))
  go_ret
  exact ⟨_, by first | rfl | (simp [errW_none, errW_some] <;> rfl) | (simp [*, errW_none, errW_some] <;> rfl), by (with_reducible repeat (first | apply Kd.V_alloc | apply Kd.V_drewN | apply Kd.V_drew)); exact Kd.V_mono HO135.out (fun _ hk => hk.1), by repeat (first | (with_reducible first | exact HB.out | apply below_alloc | apply pw_below_drewN | apply below_drew1) | exact HB.out)⟩
end Go.Proofs.YtdeneoknjeegbaaDoor.P
end
section
namespace Go.Proofs.YtdeneoknjeegbaaDoor.P
open Go.RowKit YtdeneoknjeegbaaDoorW.PrintWords YtdeneoknjeegbaaDoorW.PrintLast YtdeneoknjeegbaaDoorW.PrintMore
abbrev BytesV (w : World) (ok : Nat -> Prop) (v : Value) (l : List Int) : Prop := Kd.V (Kd.int .u8) 5 w w.heap.size ok v l
attribute [local go_sem] max2_int min2_int max_two min_two
end Go.Proofs.YtdeneoknjeegbaaDoor.P
end
section
namespace Go.Proofs.YtdeneoknjeegbaaDoor.P
open Go.RowKit YtdeneoknjeegbaaDoorW.PrintWords YtdeneoknjeegbaaDoorW.PrintLast YtdeneoknjeegbaaDoorW.PrintMore
attribute [local go_sem] max2_int min2_int max_two min_two max_three min_three max_four min_four
def annalsref01_right.f (a0 : Int) (a1 : Int) : Option (Int) := if 0 <= a1 then (if 0 <= (wrap64 (32 - a1)) then (some (Go.bits .or .u32 (shr .u32 a0 a1) (shl .u32 a0 (wrap64 (32 - a1))))) else (none)) else (none)
end Go.Proofs.YtdeneoknjeegbaaDoor.P
end
section
namespace Go.Proofs.YtdeneoknjeegbaaDoor.P
open Go.RowKit YtdeneoknjeegbaaDoorW.PrintWords YtdeneoknjeegbaaDoorW.PrintLast YtdeneoknjeegbaaDoorW.PrintMore
def Sums.agg (s : Sums) : Value := .agg #[.int .u32 s.a, .int .u32 s.b, .int .u32 s.c, .int .u32 s.d, .int .u32 s.e, .int .u32 s.f, .int .u32 s.g, .int .u32 s.h]
def Sums.rround (s : Sums) (add : Int) : Sums :=
  let s0 := Go.bits .xor .u32 (Go.bits .xor .u32 ((annalsref01_right.f s.a 2).getD 0) ((annalsref01_right.f s.a 13).getD 0)) ((annalsref01_right.f s.a 22).getD 0)
  let s1 := Go.bits .xor .u32 (Go.bits .xor .u32 ((annalsref01_right.f s.e 6).getD 0) ((annalsref01_right.f s.e 11).getD 0)) ((annalsref01_right.f s.e 25).getD 0)
  let choice := Go.bits .xor .u32 (Go.bits .and .u32 s.e s.f) (Go.bits .and .u32 (Go.bits .xor .u32 IntKind.u32.max s.e) s.g)
  let most := Go.bits .xor .u32 (Go.bits .xor .u32 (Go.bits .and .u32 s.a s.b) (Go.bits .and .u32 s.a s.c)) (Go.bits .and .u32 s.b s.c)
  ⟨(s.h + s1 + choice + add + s0 + most) % 4294967296, s.a, s.b, s.c, (s.d + (s.h + s1 + choice + add)) % 4294967296, s.e, s.f, s.g⟩

end Go.Proofs.YtdeneoknjeegbaaDoor.P
end
section
namespace Go.Proofs.YtdeneoknjeegbaaDoor.P
open Go.RowKit YtdeneoknjeegbaaDoorW.PrintWords YtdeneoknjeegbaaDoorW.PrintLast YtdeneoknjeegbaaDoorW.PrintMore
attribute [local go_sem] max2_int min2_int max_two min_two max_three min_three max_four min_four
def annalsref01_word.f (l0 : List Int) : Option (Int) := if 0 < (l0.length : Int) then (if 1 < (l0.length : Int) then (if 2 < (l0.length : Int) then (if 3 < (l0.length : Int) then (some ((((((((((rd l0 0) % 4294967296) * 16777216) % 4294967296) + ((((rd l0 1) % 4294967296) * 65536) % 4294967296)) % 4294967296) + ((((rd l0 2) % 4294967296) * 256) % 4294967296)) % 4294967296) + ((rd l0 3) % 4294967296)) % 4294967296)) else (none)) else (none)) else (none)) else (none)
def annalsref01_Blocks.f (a0 : Int) : Option (Int) := if a0 < 0 then (some (((0 : Int) / 64) + (((((0 : Int) % 64) + 9) + 63) / 64))) else (some (wrap64 ((wrap64 (Int.tdiv a0 64)) + (wrap64 (Int.tdiv (wrap64 ((wrap64 ((Int.tmod a0 64) + 9)) + 63)) 64)))))
end Go.Proofs.YtdeneoknjeegbaaDoor.P
end
section
namespace Go.Proofs.YtdeneoknjeegbaaDoor.P
open Go.RowKit YtdeneoknjeegbaaDoorW.PrintWords YtdeneoknjeegbaaDoorW.PrintLast YtdeneoknjeegbaaDoorW.PrintMore
def rblocks (n : Nat) : Nat := n / 64 + (n % 64 + 72) / 64
def rpad (bs : List Int) (k : Nat) : List Int := bs ++ [128] ++ List.replicate k 0
def rzeros (n : Nat) : Nat := 64 * rblocks n - 8 - (n + 1)
def rlen (n : Nat) : Nat -> List Int
  | 0 => []
  | k + 1 => rlen n k ++ [(8 * (n : Int)) / 2 ^ (56 - 8 * (k : Int)).toNat % 256]
def rtext (bs : List Int) : List Int := rpad bs (rzeros bs.length) ++ rlen bs.length 8
def rword (ts : List Int) : Int := (annalsref01_word.f ts).getD 0
def rnext (ws : List Int) (i : Nat) : Int :=
  let a := ws.getD (i - 15) 0
  let c := ws.getD (i - 2) 0
  (ws.getD (i - 16) 0 + Go.bits .xor .u32 (Go.bits .xor .u32 ((annalsref01_right.f a 7).getD 0) ((annalsref01_right.f a 18).getD 0)) (a / 8) + ws.getD (i - 7) 0 + Go.bits .xor .u32 (Go.bits .xor .u32 ((annalsref01_right.f c 17).getD 0) ((annalsref01_right.f c 19).getD 0)) (c / 1024)) % 4294967296
def rws (ts : List Int) (at_ : Nat) : Nat -> List Int
  | 0 => zeros64
  | i + 1 => (rws ts at_ i).set i (if i < 16 then rword (ts.drop (at_ + 4 * i)) else rnext (rws ts at_ i) i)
def rrounds (ts : List Int) (p : Nat) (h : Sums) : Nat -> Sums
  | 0 => h
  | i + 1 => (rrounds ts p h i).rround ((shaAdded.getD i 0 + (rws ts p (i + 1)).getD i 0) % 4294967296)
def rsums (ts : List Int) : Nat -> Sums
  | 0 => Sums.first
  | m + 1 => Sums.of (addW (rsums ts m).list (rrounds ts (64 * m) (rsums ts m) 64).list 8)
def rout (ws : List Int) : Nat -> List Int
  | 0 => []
  | k + 1 => rout ws k ++ [ws.getD k 0 / 16777216 % 256, ws.getD k 0 / 65536 % 256, ws.getD k 0 / 256 % 256, ws.getD k 0 % 256]
def refSum (bs : List Int) : List Int := rout (rsums (rtext bs) (rblocks bs.length)).list 8
structure RefMem (w0 w : World) (g3 g4 : Nat) (hs : List Int) : Prop where
  h3 : IsWords w g3 148 hs
  h4 : IsWords w g4 153 shaAdded
  bel : Below w0.heap.size w0 w
  ge3 : w0.heap.size <= g3
  ne : g3 ≠ g4
theorem RefMem.below {w0 w w1 : World} {g3 g4 : Nat} {hs : List Int} (h : RefMem w0 w g3 g4 hs) (hb : Below w.heap.size w w1) : RefMem w0 w1 g3 g4 hs :=
  ⟨h.h3.below hb h.h3.lt, h.h4.below hb h.h4.lt, h.bel.trans (hb.mono h.bel.size), h.ge3, h.ne⟩
structure RefMem2 (w0 w : World) (g3 g4 g8 g9 : Nat) (hs ws : List Int) (v : Sums) (vt : Value) (T : List Int) : Prop where
  mem : RefMem w0 w g3 g4 hs
  h8 : IsWords w g8 153 ws
  h9 : IsWords w g9 148 v.list
  txt : Kd.R (Kd.int .u8) 5 w w0.heap.size (fun _ => True) vt T
  ge8 : w0.heap.size <= g8
  ge9 : w0.heap.size <= g9
  n38 : g3 ≠ g8
  n48 : g4 ≠ g8
  n39 : g3 ≠ g9
  n49 : g4 ≠ g9
  n89 : g8 ≠ g9
theorem RefMem2.below {w0 w w1 : World} {g3 g4 g8 g9 : Nat} {hs ws : List Int} {v : Sums} {vt : Value} {T : List Int} (h : RefMem2 w0 w g3 g4 g8 g9 hs ws v vt T) (hb : Below w.heap.size w w1) : RefMem2 w0 w1 g3 g4 g8 g9 hs ws v vt T :=
  ⟨h.mem.below hb, h.h8.below hb h.h8.lt, h.h9.below hb h.h9.lt, Kd.R_below h.txt hb, h.ge8, h.ge9, h.n38, h.n48, h.n39, h.n49, h.n89⟩
def annalsref01_Sum.f (l0 : List Int) : Option (List Int) := if l0.length <= 140737488355000 then some (refSum l0) else none
def B (x : Int) : BitVec 32 := BitVec.ofInt 32 x
def BytesOk (bs : List Int) : Prop := ∀ x ∈ bs, 0 <= x /\ x <= 255
theorem rword_eq (ts : List Int) (h : 4 <= ts.length) (hb : BytesOk ts) : rword ts = ((ts.getD 0 0 * 256 + ts.getD 1 0) * 256 + ts.getD 2 0) * 256 + ts.getD 3 0 := by
  unfold rword annalsref01_word.f
  rw [if_pos (by omega), if_pos (by omega), if_pos (by omega), if_pos (by omega), Option.getD_some]
  have g (j : Nat) : 0 <= ts.getD j 0 /\ ts.getD j 0 <= 255 := by
    rw [List.getD_eq_getElem?_getD]
    by_cases hj : j < ts.length
    · rw [List.getElem?_eq_getElem hj]; exact hb _ (List.getElem_mem hj)
    · rw [List.getElem?_eq_none (by omega)]; simp
  have g0 := g 0
  have g1 := g 1
  have g2 := g 2
  have g3 := g 3
  unfold rd
  simp only [Int.toNat_zero, Int.toNat_one, show (2 : Int).toNat = 2 from rfl, show (3 : Int).toNat = 3 from rfl]
  omega
theorem getD_set_ne (xs : List Int) (i j : Nat) (x : Int) (h : i ≠ j) : (xs.set i x).getD j 0 = xs.getD j 0 := by
  rw [List.getD_eq_getElem?_getD, List.getElem?_set_ne h, <- List.getD_eq_getElem?_getD]
theorem BytesOk.get {bs : List Int} (h : BytesOk bs) (j : Nat) : 0 <= bs.getD j 0 /\ bs.getD j 0 <= 255 := by
  rw [List.getD_eq_getElem?_getD]
  by_cases hj : j < bs.length
  · rw [List.getElem?_eq_getElem hj]; exact h _ (List.getElem_mem hj)
  · rw [List.getElem?_eq_none (by omega)]; simp
theorem BytesOk.drop {bs : List Int} (h : BytesOk bs) (j : Nat) : BytesOk (bs.drop j) := fun x hx => h x (List.mem_of_mem_drop hx)
def bitBytes (n : Nat) : Nat := (n - 1) / 8 + 1
def cutByte (x : Int) (over : Int) : Int := Go.bits .and .u8 x (255 * 2 ^ (8 - over).toNat % 256)
def firstBits (l : List Int) (n : Nat) : List Int :=
  if n % 8 = 0 then l.take (bitBytes n) else (l.take (bitBytes n)).set (bitBytes n - 1) (cutByte ((l.take (bitBytes n)).getD (bitBytes n - 1) 0) ((n % 8 : Nat) : Int))
def firstB (l : List Int) (a : Int) : List Int := if 8 * (l.length : Int) <= a then l else if a < 1 then [] else firstBits l a.toNat
def bits_First.f (l0 : List Int) (a1 : Int) : Option (List Int) := if l0.length < 140737488355328 then some (firstB l0 a1) else none
theorem and7 (a : Int) : Go.bits .and .i64 a 7 = a % 8 := by
  unfold Go.bits
  have h7 : BitVec.ofInt IntKind.i64.bits 7 = BitVec.ofNat 64 7 := rfl
  have ha : (BitVec.ofInt IntKind.i64.bits a &&& BitVec.ofInt IntKind.i64.bits 7).toNat = (a % 8).toNat := by
    rw [h7]
    have h1 : (BitVec.ofInt 64 a).toNat = (a % 18446744073709551616).toNat := by rw [BitVec.toNat_ofInt]; rfl
    show ((BitVec.ofInt 64 a) &&& BitVec.ofNat 64 7).toNat = _
    rw [BitVec.toNat_and, h1, BitVec.toNat_ofNat]
    have h2 := Nat.and_two_pow_sub_one_eq_mod (a % 18446744073709551616).toNat 3
    have h3 : (7 % 2 ^ 64 : Nat) = 2 ^ 3 - 1 := by decide
    rw [h3, h2]
    omega
  simp only [ha]
  rw [IntKind.wrap_i64]
  omega
set_option maxHeartbeats 4000000 in
set_option maxRecDepth 100000 in
theorem bits_First.calls (A0 : Option Addr) (c0 : Nat) (l0 : List Int) (a1 : Int) (r : List Int) (w : World) (hr0 : Kd.C (Kd.int .u8) w A0 l0.length l0) (hc0 : l0.length <= c0) (h : bits_First.f l0 a1 = some r) :
    Calls Tryd.prog 77 #[.slice A0 l0.length c0, .int .i64 a1] w fun e w' => ∃ v0_ : Value, e = .returned (v0_) /\ Kd.R (Kd.int .u8) 5 w' w.heap.size (fun _ => True) v0_ r /\ Below w.heap.size w w' := by
  unfold bits_First.f at h
  split at h
  case isFalse => cases h
  case isTrue hlb =>
  obtain rfl := Option.some.inj h
  have HR := z_ hr0
  have HC := z_ hc0
  have hl2 : (l0.length : Int) < 140737488355328 := by omega
  have HL := z_ hlb
  unfold firstB
  by_cases hge : 8 * (l0.length : Int) <= a1
  · rw [if_pos hge]
    have hd : decide (8 * (l0.length : Int) <= a1) = true := decide_eq_true hge
    have HH := z_ (show slices_Clone_byte_byte.f l0 = some l0 from if_pos hlb)
    clear h hr0 hc0 hge hlb
    go_enter Tryd.func77, Tryd.ntmps77
    go_wp2_with fail
    refine (slices_Clone_byte_byte.calls A0 c0 l0 l0 _ HR.out HC.out HH.out).mono ?_
    rintro e1 w1 ⟨v, rfl, hR, hB⟩
    have HR1 := z_ hR
    have HB1 := z_ hB
    clear hR hB
    go_wp2_with fail
    go_ret
    exact ⟨_, rfl, HR1.out, HB1.out⟩
  · rw [if_neg hge]
    have hd : decide (8 * (l0.length : Int) <= a1) = false := decide_eq_false hge
    by_cases h1 : a1 < 1
    · rw [if_pos h1]
      have hd1 : decide (a1 < 1) = true := decide_eq_true h1
      clear h hr0 hc0 hge h1 hlb
      go_enter Tryd.func77, Tryd.ntmps77
      go_wp2_with fail
      go_ret
      exact ⟨_, rfl, Kd.R_nil _ _ _ _ _, Below.refl _ _⟩
    · rw [if_neg h1]
      have hd1 : decide (a1 < 1) = false := decide_eq_false h1
      obtain ⟨m, hm⟩ : ∃ m, m = bitBytes a1.toNat := ⟨_, rfl⟩
      have hm1 : (a1 - 1) / 8 + 1 = (m : Int) := by rw [hm]; unfold bitBytes; omega
      have hml : m <= l0.length := by omega
      have hm0 : 0 < m := by omega
      have ha1 : 1 <= a1 := by omega
      have HA1 := z_ ha1
      have ha2 : a1 <= 1125899906842624 := by omega
      have hmi : (m : Int) <= 140737488355328 := by omega
      have hmk := print_make (P := Tryd.prog) 31 5 .u8 1 Tryd.underlying31 info5 (by decide) m (by omega)
      obtain ⟨W1, hW1⟩ : ∃ W1, W1 = w.alloc (.cells (madeCells #[.int .u8 0] m) 5) := ⟨_, rfl⟩
      have hz : (madeCells #[Value.int .u8 0] m) = (List.replicate m (Value.int .u8 0)).toArray := by
        apply Array.ext'
        have := own_made w w.heap.size 5 .u8 m (Nat.le_refl _) (by omega)
        apply List.ext_getElem
        · simp [size_madeCells]
        · intro i h1 h2
          simp [madeCells, Nat.mod_one]
      have HTAIL : W1.heap[w.heap.size]? = some (.cells (List.replicate m (Value.int .u8 0)).toArray 5 (0, 0)) := by rw [hW1, hz]; exact heap_alloc_new w _
      have hBW : Below w.heap.size w W1 := by rw [hW1]; exact below_alloc (Below.refl _ _) _
      have hcs := copy_src (Kd.C_take (Kd.C_below hr0 hBW) hml) w.heap.size
      have htl : ((l0.take m).map (Value.int .u8)).length = m := by rw [List.length_map, List.length_take]; omega
      have HW1 := z_ hW1
      have HM := z_ hm
      have HML := z_ hml
      have HTL := z_ htl
      have HBW := z_ hBW
      have HT := z_ HTAIL
      have HCS := z_ hcs
      have H1C := z_ (show ∀ v ∈ (l0.take m).map (Value.int .u8), v.oneCell' = true from fun v hv => by obtain ⟨x, _, rfl⟩ := List.mem_map.1 hv; rfl)
      clear h hr0 hc0 hge h1 hlb hm hml htl hBW HTAIL hcs hz hW1
      obtain ⟨ov, hov⟩ : ∃ ov, ov = a1 % 8 := ⟨_, rfl⟩
      have hand := and7 a1
      rw [<- hov] at hand
      have ov0 : 0 <= ov := by omega
      have ov8 : ov < 8 := by omega
      have HOV := z_ hov
      clear hov
      by_cases hz : 0 < ov
      · have hdv : decide (0 < ov) = true := decide_eq_true hz
        have HZ := z_ hz
        clear hz
        go_enter Tryd.func77, Tryd.ntmps77
        go_wp2_with (first | ((with_reducible refine gate_builtin (b := .copy) (xs := #[.tmp 21, .tmp 22]) rfl ?_); rw [<- HW1.out]; go_must (refine wpList_copy_splice rfl (.tmp 21) (.tmp 22) 31 31 rfl 5 Tryd.underlying31 (by kernel_rfl) (some ⟨w.heap.size, 0, none⟩) A0 m m l0.length c0 rfl rfl w.heap.size 0 (List.replicate m (.int .u8 0)) 5 HT.out ((l0.take m).map (Value.int .u8)) (HTL.out.trans (Nat.min_eq_right HML.out).symm) HCS.out (by rw [HTL.out]; simp) H1C.out w.heap.size _ HBW.out (Nat.le_refl _) ?_; intro w2 HG2 hB2; rw [HTL.out]; have HTB := z_ (IsBytes.of_splice HG2.out); have HB2 := z_ hB2; clear HG2 hB2 hm1 hmk ha1 ha2 hl2 hd hd1)))
        obtain ⟨xs, hxs⟩ : ∃ xs, xs = l0.take m := ⟨_, rfl⟩
        have hxl : xs.length = m := by have := HML.out; rw [hxs, List.length_take]; omega
        have hTB : IsBytes w2 w.heap.size 5 xs := by have := HTB.out; rw [<- hxs, hxl, Nat.sub_self, List.replicate_zero, List.append_nil] at this; exact this
        have HTX := z_ hTB
        have HXS := z_ hxs
        obtain ⟨g, hg⟩ : ∃ g, g = w.heap.size := ⟨_, rfl⟩
        rw [<- hg] at HTX
        rw [<- hg]
        have HG := z_ hg
        clear hTB hxs hg HTB
        refine still_tail_at 11 (by kernel_rfl) (by kernel_rfl) (fun W hW => ?_)
        replace HTX : Aside0 (IsBytes W g 5 xs) := ⟨by rw [hW]; exact HTX.out⟩
        replace HB2 : Aside0 (Below w.heap.size w W) := ⟨by rw [hW]; exact below_drew1 HB2.out⟩
        clear hW
        obtain ⟨j, hj⟩ : ∃ j, j = m - 1 := ⟨_, rfl⟩
        have hjm : (m : Int) - 1 = (j : Int) := by omega
        have wj : IntKind.i64.wrap (j : Int) = (j : Int) := IntWalk.i64_in _ ⟨by omega, by omega⟩
        have qj : (j : Int) < (m : Int) := by omega
        have qj2 : j < m := by omega
        have pj : 0 <= (j : Int) := by omega
        have hc := HTX.out.cell j (by omega)
        have hf := HTX.out.frozen j
        obtain ⟨x, hx⟩ : ∃ x, x = xs.getD j 0 := ⟨_, rfl⟩
        rw [<- hx] at hc
        obtain ⟨s, hs⟩ : ∃ s, s = 8 - ov := ⟨_, rfl⟩
        have hs2 : 8 - ov = s := hs.symm
        have ws : IntKind.i64.wrap s = s := IntWalk.i64_in _ ⟨by omega, by omega⟩
        have s0 : 0 <= s := by omega
        have s8 : s <= 8 := by omega
        have HS := z_ hs
        have HX := z_ hx
        have HJ := z_ hj
        have HXL := z_ hxl
        clear hj hx hs hxl ov0 ov8 hmi hm0
        simp only [List.take_succ_cons, List.take_zero, List.drop_succ_cons, List.drop_zero]
        repeat still_step
        refine wpStill_nil ?_
        go_wp2_with fail
        go_ret
        have hfin : firstBits l0 a1.toNat = xs.set j (Go.bits .and .u8 x (255 * 2 ^ s.toNat % 256)) := by
          have hm := HML.out
          have hz := HZ.out
          have ho := HOV.out
          have h1 := HA1.out
          have hov : ((a1.toNat % 8 : Nat) : Int) = ov := by omega
          unfold firstBits
          rw [if_neg (by omega), <- HM.out, <- HXS.out, <- HJ.out, <- HX.out, hov]
          unfold cutByte
          rw [<- HS.out]
        rw [hfin]
        have hge : w.heap.size <= g := by rw [HG.out]; exact Nat.le_refl _
        exact ⟨_, rfl, (HTX.out.set j _).R hge (by rw [List.length_set]; exact HXL.out) (by have := HML.out; have := HL.out; unfold maxLen; omega), HB2.out.setCell (by show w.heap.size <= g; exact hge) _⟩
      · have hdv : decide (0 < ov) = false := decide_eq_false hz
        have hov0 : ov = 0 := by omega
        have HZ := z_ hov0
        clear hz hov0
        go_enter Tryd.func77, Tryd.ntmps77
        go_wp2_with (first | ((with_reducible refine gate_builtin (b := .copy) (xs := #[.tmp 21, .tmp 22]) rfl ?_); rw [<- HW1.out]; go_must (refine wpList_copy_splice rfl (.tmp 21) (.tmp 22) 31 31 rfl 5 Tryd.underlying31 (by kernel_rfl) (some ⟨w.heap.size, 0, none⟩) A0 m m l0.length c0 rfl rfl w.heap.size 0 (List.replicate m (.int .u8 0)) 5 HT.out ((l0.take m).map (Value.int .u8)) (HTL.out.trans (Nat.min_eq_right HML.out).symm) HCS.out (by rw [HTL.out]; simp) H1C.out w.heap.size _ HBW.out (Nat.le_refl _) ?_; intro w2 HG2 hB2; rw [HTL.out]; have HTB := z_ (IsBytes.of_splice HG2.out); have HB2 := z_ hB2; clear HG2 hB2 hm1 hmk ha1 ha2 hl2 hd hd1)))
        go_ret
        have hxl : (l0.take m).length = m := by have := HML.out; rw [List.length_take]; omega
        have hTB : IsBytes w2 w.heap.size 5 (l0.take m) := by have := HTB.out; rw [hxl, Nat.sub_self, List.replicate_zero, List.append_nil] at this; exact this
        have hfin : firstBits l0 a1.toNat = l0.take m := by
          unfold firstBits
          rw [if_pos (by have := HZ.out; have := HOV.out; have := HA1.out; omega), <- HM.out]
        rw [hfin]
        exact ⟨_, rfl, hTB.R (Nat.le_refl _) hxl (by have := HML.out; have := HL.out; unfold maxLen; omega), HB2.out⟩
end Go.Proofs.YtdeneoknjeegbaaDoor.P
end
section
namespace Go.Proofs.YtdeneoknjeegbaaDoor.P
open Go.RowKit YtdeneoknjeegbaaDoorW.PrintWords YtdeneoknjeegbaaDoorW.PrintLast YtdeneoknjeegbaaDoorW.PrintMore
attribute [local go_sem] max2_int min2_int max_two min_two max_three min_three max_four min_four
def annalsref01_Cut.f (a0 : Int) (l1 : List Int) : Option (List Int) := (annalsref01_Sum.f l1).bind fun t172 => (if 0 <= (mx 0 (mn a0 32)) then (if (mx 0 (mn a0 32)) <= (t172.length : Int) then (some (t172.take ((mx 0 (mn a0 32)) : Int).toNat)) else (none)) else (none))
mutual
def annalsref02_Text.j0 : Nat -> Int -> List (List Int) -> Bool -> Option (List Int × Int)
  | 0, _, _, _ => none
  | k + 1, x0, x1, x14 => if x14 = true then (some (([] : List Int), 1)) else (annalsref02_Text.l0 k (([(x0) % 256] : List Int)) x1 (x1.length : Int) 0)
def annalsref02_Text.l0 : Nat -> List Int -> List (List Int) -> Int -> Int -> Option (List Int × Int)
  | 0, _, _, _, _ => none
  | k + 1, x6, x18, x19, x20 => if x20 < x19 then (if 0 <= x20 then (if x20 < (x18.length : Int) then (if ((rd_L1 x18 x20).length : Int) > 65535 then (some (([] : List Int), 4)) else ((some (([(((rd_L1 x18 x20).length : Int) / 256) % 256, (((rd_L1 x18 x20).length : Int)) % 256] : List Int) : List Int)).bind fun y159 => (if x6.length + y159.length < 140737488355328 then ((some (x6 ++ y159 : List Int)).bind fun y162 => (if y162.length + (rd_L1 x18 x20).length < 140737488355328 then (annalsref02_Text.l0 k (y162 ++ (rd_L1 x18 x20)) x18 x19 (wrap64 (x20 + 1))) else (none))) else (none)))) else (none)) else (none)) else (some (x6, 0))
end
def annalsref02_Text.f (k : Nat) (a0 : Int) (l1 : List (List Int)) : Option (List Int × Int) := if a0 < 0 then (annalsref02_Text.j0 k a0 l1 true) else (annalsref02_Text.j0 k a0 l1 (decide (a0 > 255)))
theorem annalsref02_Text.mono_l : ∀ k, (∀ y0 y1 y2, LeO (annalsref02_Text.j0 k y0 y1 y2) (annalsref02_Text.j0 (k + 1) y0 y1 y2)) /\ (∀ y0 y1 y2 y3, LeO (annalsref02_Text.l0 k y0 y1 y2 y3) (annalsref02_Text.l0 (k + 1) y0 y1 y2 y3))
  | 0 => ⟨fun _ _ _ r h => by simp [annalsref02_Text.j0] at h, fun _ _ _ _ r h => by simp [annalsref02_Text.l0] at h⟩
  | k + 1 => by
    obtain ⟨ih0, ih1⟩ := annalsref02_Text.mono_l k
    refine ⟨?_, ?_⟩
    · intro y0 y1 y2
      unfold annalsref02_Text.j0
      repeat' first
      | (with_reducible exact ih0 _ _ _)
      | (with_reducible exact ih1 _ _ _ _)
      | (with_reducible exact LeO.refl _)
      | (with_reducible exact LeO.none _)
      | (with_reducible refine LeO.ite ?_ ?_)
      | (with_reducible refine LeO.bind ?_ (fun _ => ?_))
      | exact ih0 _ _ _
      | exact ih1 _ _ _ _
      | exact LeO.none _
      | refine LeO.ite ?_ ?_
      | refine LeO.bind ?_ (fun _ => ?_)
    · intro y0 y1 y2 y3
      unfold annalsref02_Text.l0
      repeat' first
      | (with_reducible exact ih0 _ _ _)
      | (with_reducible exact ih1 _ _ _ _)
      | (with_reducible exact LeO.refl _)
      | (with_reducible exact LeO.none _)
      | (with_reducible refine LeO.ite ?_ ?_)
      | (with_reducible refine LeO.bind ?_ (fun _ => ?_))
      | exact ih0 _ _ _
      | exact ih1 _ _ _ _
      | exact LeO.none _
      | refine LeO.ite ?_ ?_
      | refine LeO.bind ?_ (fun _ => ?_)
theorem annalsref02_Text.mono : ∀ a0 a1 k, LeO (annalsref02_Text.f k a0 a1) (annalsref02_Text.f (k + 1) a0 a1) := by
  intro a0 a1 k
  obtain ⟨ih0, ih1⟩ := annalsref02_Text.mono_l k
  unfold annalsref02_Text.f
  repeat' first
      | (with_reducible exact ih0 _ _ _)
      | (with_reducible exact ih1 _ _ _ _)
      | (with_reducible exact LeO.refl _)
      | (with_reducible exact LeO.none _)
      | (with_reducible refine LeO.ite ?_ ?_)
      | (with_reducible refine LeO.bind ?_ (fun _ => ?_))
      | exact ih0 _ _ _
      | exact ih1 _ _ _ _
      | exact LeO.none _
      | refine LeO.ite ?_ ?_
      | refine LeO.bind ?_ (fun _ => ?_)
def annalsref02_Hash.f (k : Nat) (a0 : Int) (a1 : Int) (l2 : List (List Int)) : Option (List Int) := (annalsref02_Text.f k a1 l2).bind fun bt178 => (if bt178.2 = 0 then ((annalsref01_Cut.f a0 bt178.1).bind fun t182 => (some t182)) else (some ([] : List Int)))
theorem annalsref02_Hash.mono : ∀ a0 a1 a2 k, LeO (annalsref02_Hash.f k a0 a1 a2) (annalsref02_Hash.f (k + 1) a0 a1 a2) := by
  intro a0 a1 a2 k
  unfold annalsref02_Hash.f
  repeat' first
      | (with_reducible exact annalsref02_Text.mono _ _ _)
      | (with_reducible exact LeO.refl _)
      | (with_reducible exact LeO.none _)
      | (with_reducible refine LeO.ite ?_ ?_)
      | (with_reducible refine LeO.bind ?_ (fun _ => ?_))
      | exact annalsref02_Text.mono _ _ _
      | exact LeO.none _
      | refine LeO.ite ?_ ?_
      | refine LeO.bind ?_ (fun _ => ?_)
def annalsref02_Number.l0 : Nat -> Int -> List Int -> Int -> Option (List Int)
  | 0, _, _, _ => none
  | k + 1, x0, x3, x4 => if x4 >= 0 then (if 0 <= x4 then (if x3.length < 140737488355328 then (annalsref02_Number.l0 k x0 (x3 ++ [(shr .u64 (IntKind.u64.wrap (x0)) x4) % 256]) (wrap64 (x4 - 8))) else (none)) else (none)) else (some x3)
def annalsref02_Number.f (k : Nat) (a0 : Int) : Option (List Int) := annalsref02_Number.l0 k a0 ([] : List Int) 56
theorem annalsref02_Number.mono_l : ∀ k, (∀ y0 y1 y2, LeO (annalsref02_Number.l0 k y0 y1 y2) (annalsref02_Number.l0 (k + 1) y0 y1 y2))
  | 0 => fun _ _ _ r h => by simp [annalsref02_Number.l0] at h
  | k + 1 => by
    have ih0 := annalsref02_Number.mono_l k
    · intro y0 y1 y2
      unfold annalsref02_Number.l0
      repeat' first
      | (with_reducible exact ih0 _ _ _)
      | (with_reducible exact LeO.refl _)
      | (with_reducible exact LeO.none _)
      | (with_reducible refine LeO.ite ?_ ?_)
      | (with_reducible refine LeO.bind ?_ (fun _ => ?_))
      | exact ih0 _ _ _
      | exact LeO.none _
      | refine LeO.ite ?_ ?_
      | refine LeO.bind ?_ (fun _ => ?_)
theorem annalsref02_Number.mono : ∀ a0 k, LeO (annalsref02_Number.f k a0) (annalsref02_Number.f (k + 1) a0) := by
  intro a0 k
  have ih0 := annalsref02_Number.mono_l k
  unfold annalsref02_Number.f
  repeat' first
      | (with_reducible exact ih0 _ _ _)
      | (with_reducible exact LeO.refl _)
      | (with_reducible exact LeO.none _)
      | (with_reducible refine LeO.ite ?_ ?_)
      | (with_reducible refine LeO.bind ?_ (fun _ => ?_))
      | exact ih0 _ _ _
      | exact LeO.none _
      | refine LeO.ite ?_ ?_
      | refine LeO.bind ?_ (fun _ => ?_)
mutual
def annalsref03_First.l0 : Nat -> List Int -> Int -> List Int -> Int -> Option (List Int)
  | 0, _, _, _, _ => none
  | k + 1, x0, x1, x5, x6 => if x6 < x1 then (annalsref03_First.j1 k x0 x1 x5 x6 (decide ((wrap64 (Int.tdiv x6 8)) < (x0.length : Int)))) else (annalsref03_First.j1 k x0 x1 x5 x6 false)
def annalsref03_First.j1 : Nat -> List Int -> Int -> List Int -> Int -> Bool -> Option (List Int)
  | 0, _, _, _, _, _ => none
  | k + 1, x0, x1, x5, x6, x17 => if x17 = true then (if 0 <= (wrap64 (Int.tdiv x6 8)) then (if (wrap64 (Int.tdiv x6 8)) < (x0.length : Int) then (if (wrap64 (x1 - x6)) < 8 then (if 0 <= (wrap64 (8 - (wrap64 (x1 - x6)))) then (if x5.length < 140737488355328 then (annalsref03_First.l0 k x0 x1 (x5 ++ [shl .u8 (shr .u8 (rd x0 (wrap64 (Int.tdiv x6 8))) (wrap64 (8 - (wrap64 (x1 - x6))))) (wrap64 (8 - (wrap64 (x1 - x6))))]) (wrap64 (x6 + 8))) else (none)) else (none)) else (if x5.length < 140737488355328 then (annalsref03_First.l0 k x0 x1 (x5 ++ [rd x0 (wrap64 (Int.tdiv x6 8))]) (wrap64 (x6 + 8))) else (none))) else (none)) else (none)) else (some x5)
end
def annalsref03_First.f (k : Nat) (l0 : List Int) (a1 : Int) : Option (List Int) := annalsref03_First.l0 k l0 a1 ([] : List Int) 0
theorem annalsref03_First.mono_l : ∀ k, (∀ y0 y1 y2 y3, LeO (annalsref03_First.l0 k y0 y1 y2 y3) (annalsref03_First.l0 (k + 1) y0 y1 y2 y3)) /\ (∀ y0 y1 y2 y3 y4, LeO (annalsref03_First.j1 k y0 y1 y2 y3 y4) (annalsref03_First.j1 (k + 1) y0 y1 y2 y3 y4))
  | 0 => ⟨fun _ _ _ _ r h => by simp [annalsref03_First.l0] at h, fun _ _ _ _ _ r h => by simp [annalsref03_First.j1] at h⟩
  | k + 1 => by
    obtain ⟨ih0, ih1⟩ := annalsref03_First.mono_l k
    refine ⟨?_, ?_⟩
    · intro y0 y1 y2 y3
      unfold annalsref03_First.l0
      repeat' first
      | (with_reducible exact ih0 _ _ _ _)
      | (with_reducible exact ih1 _ _ _ _ _)
      | (with_reducible exact LeO.refl _)
      | (with_reducible exact LeO.none _)
      | (with_reducible refine LeO.ite ?_ ?_)
      | (with_reducible refine LeO.bind ?_ (fun _ => ?_))
      | exact ih0 _ _ _ _
      | exact ih1 _ _ _ _ _
      | exact LeO.none _
      | refine LeO.ite ?_ ?_
      | refine LeO.bind ?_ (fun _ => ?_)
    · intro y0 y1 y2 y3 y4
      unfold annalsref03_First.j1
      repeat' first
      | (with_reducible exact ih0 _ _ _ _)
      | (with_reducible exact ih1 _ _ _ _ _)
      | (with_reducible exact LeO.refl _)
      | (with_reducible exact LeO.none _)
      | (with_reducible refine LeO.ite ?_ ?_)
      | (with_reducible refine LeO.bind ?_ (fun _ => ?_))
      | exact ih0 _ _ _ _
      | exact ih1 _ _ _ _ _
      | exact LeO.none _
      | refine LeO.ite ?_ ?_
      | refine LeO.bind ?_ (fun _ => ?_)
theorem annalsref03_First.mono : ∀ a0 a1 k, LeO (annalsref03_First.f k a0 a1) (annalsref03_First.f (k + 1) a0 a1) := by
  intro a0 a1 k
  obtain ⟨ih0, ih1⟩ := annalsref03_First.mono_l k
  unfold annalsref03_First.f
  repeat' first
      | (with_reducible exact ih0 _ _ _ _)
      | (with_reducible exact ih1 _ _ _ _ _)
      | (with_reducible exact LeO.refl _)
      | (with_reducible exact LeO.none _)
      | (with_reducible refine LeO.ite ?_ ?_)
      | (with_reducible refine LeO.bind ?_ (fun _ => ?_))
      | exact ih0 _ _ _ _
      | exact ih1 _ _ _ _ _
      | exact LeO.none _
      | refine LeO.ite ?_ ?_
      | refine LeO.bind ?_ (fun _ => ?_)
end Go.Proofs.YtdeneoknjeegbaaDoor.P
end
section
namespace Go.Proofs.YtdeneoknjeegbaaDoor.P
open Go.RowKit YtdeneoknjeegbaaDoorW.PrintWords YtdeneoknjeegbaaDoorW.PrintLast YtdeneoknjeegbaaDoorW.PrintMore
theorem wrap64_id (x : Int) (h : -9223372036854775808 <= x /\ x <= 9223372036854775807) : wrap64 x = x := by unfold wrap64; omega
def num8 (n : Int) : List Int := [n / 72057594037927936 % 256, n / 281474976710656 % 256, n / 1099511627776 % 256, n / 4294967296 % 256, n / 16777216 % 256, n / 65536 % 256, n / 256 % 256, n % 256]
theorem num8_length (n : Int) : (num8 n).length = 8 := rfl
theorem div256 (n : Int) (a b : Int) (ha : 0 <= a) (h : a * 256 = b) : n / a / 256 = n / b := by
  rw [Int.ediv_ediv_of_nonneg ha, h]
theorem numBytes_eq (n : Int) : numBytes n = num8 n := by
  have e (i : Nat) (x : Int) (ys : List Int) : numRun (i + 1) x ys = numRun i (x / 256) (ys.set i (x % 256)) := rfl
  unfold numBytes
  rw [e 7, e 6, e 5, e 4, e 3, e 2, e 1, e 0]
  rw [div256 n 256 65536 (by decide) (by decide), div256 n 65536 16777216 (by decide) (by decide), div256 n 16777216 4294967296 (by decide) (by decide), div256 n 4294967296 1099511627776 (by decide) (by decide), div256 n 1099511627776 281474976710656 (by decide) (by decide), div256 n 281474976710656 72057594037927936 (by decide) (by decide)]
  rfl
def partB (p : List Int) : List Int := [(p.length : Int) / 256 % 256, (p.length : Int) % 256] ++ p
def textB (tag : Int) (parts : List (List Int)) : List Int := [tag] ++ parts.flatMap partB
def hashB (size tag : Int) (parts : List (List Int)) : List Int := if parts.any isLong = true then [] else (shaSum (textB tag parts)).take (mn (mx size 0) 32).toNat
theorem rd_L1_at (xs : List (List Int)) (i : Nat) (h : i < xs.length) : rd_L1 xs (i : Int) = xs[i] := by
  unfold rd_L1
  rw [Int.toNat_natCast, List.getD_eq_getElem?_getD, List.getElem?_eq_getElem h]
  rfl
theorem partB_length (p : List Int) : (partB p).length = p.length + 2 := by
  unfold partB
  simp
theorem flat_len (parts : List (List Int)) (h : ∀ p ∈ parts, p.length <= 65535) : (parts.flatMap partB).length <= 65537 * parts.length := by
  induction parts with
  | nil => simp
  | cons p ps ih =>
    have := ih (fun q hq => h q (List.mem_cons_of_mem _ hq))
    have h1 := h p List.mem_cons_self
    rw [List.flatMap_cons, List.length_append, List.length_cons, partB_length]
    omega
theorem not_long {parts : List (List Int)} (h : parts.any isLong = false) : ∀ p ∈ parts, p.length <= 65535 := by
  intro p hp
  have := List.any_eq_false.1 h p hp
  unfold isLong at this
  simp at this
  omega
theorem text_l0 (parts : List (List Int)) (hl : ∀ p ∈ parts, p.length <= 65535) (hn : parts.length <= 100000) : ∀ (d i k : Nat) (acc : List Int), i + d = parts.length -> d < k -> acc.length <= 65537 * i + 1 ->
    texts_Text.l0 k acc parts (parts.length : Int) (i : Int) = some (acc ++ (parts.drop i).flatMap partB, 0) := by
  intro d
  induction d with
  | zero =>
    intro i k acc hi hk ha
    obtain ⟨k, rfl⟩ : ∃ m, k = m + 1 := ⟨k - 1, by omega⟩
    simp only [texts_Text.l0]
    rw [if_neg (by omega), List.drop_of_length_le (by omega)]
    simp
  | succ d ih =>
    intro i k acc hi hk ha
    obtain ⟨k, rfl⟩ : ∃ m, k = m + 1 := ⟨k - 1, by omega⟩
    have hlt : i < parts.length := by omega
    have h1 := hl parts[i] (List.getElem_mem hlt)
    simp only [texts_Text.l0]
    rw [if_pos (by omega), if_pos (by omega), if_pos (by omega), rd_L1_at _ _ hlt]
    simp only [Option.bind_some]
    rw [if_pos (by simp; omega), if_pos (by simp; omega), wrap64_id _ (by omega)]
    have := ih (i + 1) k (acc ++ [(parts[i].length : Int) / 256 % 256, (parts[i].length : Int) % 256] ++ parts[i]) (by omega) (by omega) (by simp; omega)
    rw [show ((i : Int) + 1) = ((i + 1 : Nat) : Int) by omega, this, List.drop_eq_getElem_cons hlt, List.flatMap_cons]
    unfold partB
    simp
theorem text_f (tag : Int) (parts : List (List Int)) (ht : 0 <= tag /\ tag <= 255) (hn : parts.length <= 100000) (k : Nat) (hk : parts.length < k) :
    texts_Text.f k tag parts = some (if parts.any isLong = true then ([], 4) else (textB tag parts, 0)) := by
  unfold texts_Text.f
  rw [if_pos (by omega)]
  unfold slices_ContainsFunc_byte_byte.f
  simp only [Option.bind_some]
  cases h : parts.any isLong
  · rw [if_neg (by simp), if_neg (by simp)]
    have := text_l0 parts (not_long h) hn parts.length 0 k [tag % 256] (by omega) hk (by simp)
    rw [show ((0 : Nat) : Int) = 0 from rfl] at this
    rw [this, show tag % 256 = tag by omega]
    rfl
  · rw [if_pos rfl, if_pos rfl]
theorem textB_length (tag : Int) (parts : List (List Int)) (h : parts.any isLong = false) : (textB tag parts).length <= 65537 * parts.length + 1 := by
  have := flat_len parts (not_long h)
  unfold textB
  simp only [List.length_append, List.length_cons, List.length_nil]
  omega
theorem hash_f (size tag : Int) (parts : List (List Int)) (ht : 0 <= tag /\ tag <= 255) (hn : parts.length <= 100000) (k : Nat) (hk : parts.length < k) :
    texts_Hash.f k size tag parts = some (hashB size tag parts) := by
  unfold texts_Hash.f hashB
  rw [text_f tag parts ht hn k hk]
  simp only [Option.bind_some]
  cases h : parts.any isLong
  · have hl := textB_length tag parts h
    simp only [Bool.false_eq_true, if_false, if_true]
    unfold sha_Cut.f
    rw [if_pos (by show (textB tag parts).length <= _; omega)]
    rfl
  · simp only [if_true]
    rw [if_neg (by decide)]
theorem firstB_length (l : List Int) (a : Int) : (firstB l a).length <= l.length := by
  unfold firstB firstBits
  split
  · omega
  · split
    · simp
    · split
      · rw [List.length_take]; omega
      · rw [List.length_set, List.length_take]; omega
theorem bits_u8_range (op : BinOp) (x y : Int) : 0 <= Go.bits op .u8 x y /\ Go.bits op .u8 x y <= 255 := by
  unfold Go.bits
  rw [IntKind.wrap_u8]
  omega
theorem firstB_ok (l : List Int) (hb : BytesOk l) (a : Int) : BytesOk (firstB l a) := by
  unfold firstB firstBits
  have ht (m : Nat) : BytesOk (l.take m) := fun x hx => hb x (List.mem_of_mem_take hx)
  split
  · exact hb
  · split
    · intro x hx; cases hx
    · split
      · exact ht _
      · intro x hx
        rcases List.mem_or_eq_of_mem_set hx with h | rfl
        · exact ht _ x h
        · unfold cutByte
          exact bits_u8_range _ _ _
theorem at_raw {w : World} {p : Nat} {size room : Int} {g n c : Nat} {vf : Value} (h : ABlk w p size room (.slice (some ⟨g, 0, none⟩) n c) vf) (hs : size ≠ 0) (hn : n <= 9223372036854775807) (k : Nat) (hk : k < n) (hc : w.cell? ⟨g, k * 11, none⟩ = some (.bool true)) :
    Calls Tryd.prog 51 #[.pointer (some ⟨p, 0, none⟩), .int .i64 (k : Int)] w fun e w' => e = .returned (.pointer (some ⟨g, k * 11 + 1, none⟩)) /\ w = w' := by
  have HBk := z_ h
  have HS := z_ hs
  have hk2 : decide (n <= k) = false := decide_eq_false (by omega)
  have hk3 : (k : Int) < (n : Int) := by omega
  have hk4 : decide ((k : Int) < 0) = false := decide_eq_false (by omega)
  have hk5 : 0 <= (k : Int) := by omega
  clear h hs
  go_enter Tryd.func51, Tryd.ntmps51
  go_wp2_with fail
  refine (none_calls HBk.out HS.out).mono ?_
  rintro e w' ⟨rfl, rfl⟩
  obtain ⟨c0, c1, c2, c3⟩ := HBk.out.cells
  go_wp2_with fail
  go_ret
  exact ⟨rfl, rfl⟩
def annalslaw09_awake.f : Option Bool := some true
end Go.Proofs.YtdeneoknjeegbaaDoor.P
end
