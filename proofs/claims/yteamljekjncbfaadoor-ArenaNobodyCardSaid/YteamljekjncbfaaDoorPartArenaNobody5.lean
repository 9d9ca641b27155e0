/- Lemmas of this claim, part 5. -/
import Derived.Test.YteamljekjncbfaaDoorPartArenaNobody4
import Derived.Test.YteamljekjncbfaaDoorPartArenaNobody2
import Derived.Lib.SlBytesConst
import Derived.Test.YteamljekjncbfaaDoorPartArenaNobody1
import Derived.ChangeArms
import Derived.SizedLaws
import Derived.Shelf.Small.Bits
import Derived.Shelf.Strconv.Itoa0
import Derived.Shelf.Slices.Turned
import Derived.Shelf.Slices.Equal
import Derived.Shelf.Slices.Empties2
import Derived.Shelf.Bytes.SlSearch0
import Derived.Ground.SlbCloneProg
import Derived.Shelf.Bytes.SlClone
import Derived.Shelf.Bytes.SlEqualAll
import Derived.Shelf.Bytes.Small
import Derived.Test.YteamljekjncbfaaDoorProg
import Derived.Shelf.Spec.TrailingZeros
section
set_option linter.unusedVariables false
set_option linter.unusedSimpArgs false
namespace Go.Proofs.YteamljekjncbfaaDoor.P
open Go.RowKit Go.Proofs.YteamljekjncbfaaDoorW.PrintWords Go.Proofs.YteamljekjncbfaaDoorW.PrintLast Go.Proofs.YteamljekjncbfaaDoorW.PrintMore
theorem wrap64_id (x : Int) (h : -9223372036854775808 ≤ x ∧ x ≤ 9223372036854775807) : wrap64 x = x := by unfold wrap64; omega
def num8 (n : Int) : List Int := [n / 72057594037927936 % 256, n / 281474976710656 % 256, n / 1099511627776 % 256, n / 4294967296 % 256, n / 16777216 % 256, n / 65536 % 256, n / 256 % 256, n % 256]
theorem div256 (n : Int) (a b : Int) (ha : 0 ≤ a) (h : a * 256 = b) : n / a / 256 = n / b := by
  rw [Int.ediv_ediv_of_nonneg ha, h]
theorem numBytes_eq (n : Int) : numBytes n = num8 n := by
  have e (i : Nat) (x : Int) (ys : List Int) : numRun (i + 1) x ys = numRun i (x / 256) (ys.set i (x % 256)) := rfl
  unfold numBytes
  rw [e 7, e 6, e 5, e 4, e 3, e 2, e 1, e 0]
  rw [div256 n 256 65536 (by decide) (by decide), div256 n 65536 16777216 (by decide) (by decide), div256 n 16777216 4294967296 (by decide) (by decide), div256 n 4294967296 1099511627776 (by decide) (by decide), div256 n 1099511627776 281474976710656 (by decide) (by decide), div256 n 281474976710656 72057594037927936 (by decide) (by decide)]
  rfl
def partB (p : List Int) : List Int := [(p.length : Int) / 256 % 256, (p.length : Int) % 256] ++ p
def textB (tag : Int) (parts : List (List Int)) : List Int := [tag] ++ parts.flatMap partB
def hashB (size tag : Int) (parts : List (List Int)) : List Int := if parts.any isLong = true then [] else (shaSum (textB tag parts)).take (mn (mx size 0) 32).toNat
theorem rd_L1_at (xs : List (List Int)) (i : Nat) (h : i < xs.length) : rd_L1 xs (i : Int) = xs[i] := by
  unfold rd_L1
  rw [Int.toNat_natCast, List.getD_eq_getElem?_getD, List.getElem?_eq_getElem h]
  rfl
theorem partB_length (p : List Int) : (partB p).length = p.length + 2 := by
  unfold partB
  simp
theorem flat_len (parts : List (List Int)) (h : ∀ p ∈ parts, p.length ≤ 65535) : (parts.flatMap partB).length ≤ 65537 * parts.length := by
  induction parts with
  | nil => simp
  | cons p ps ih =>
    have := ih (fun q hq => h q (List.mem_cons_of_mem _ hq))
    have h1 := h p List.mem_cons_self
    rw [List.flatMap_cons, List.length_append, List.length_cons, partB_length]
    omega
theorem not_long {parts : List (List Int)} (h : parts.any isLong = false) : ∀ p ∈ parts, p.length ≤ 65535 := by
  intro p hp
  have := List.any_eq_false.1 h p hp
  unfold isLong at this
  simp at this
  omega
theorem text_l0 (parts : List (List Int)) (hl : ∀ p ∈ parts, p.length ≤ 65535) (hn : parts.length ≤ 100000) : ∀ (d i k : Nat) (acc : List Int), i + d = parts.length → d < k → acc.length ≤ 65537 * i + 1 →
    texts_Text.l0 k acc parts (parts.length : Int) (i : Int) = some (acc ++ (parts.drop i).flatMap partB, 0) := by
  intro d
  induction d with
  | zero =>
    intro i k acc hi hk ha
    obtain ⟨k, rfl⟩ : ∃ m, k = m + 1 := ⟨k - 1, by omega⟩
    simp only [texts_Text.l0]
    rw [if_neg (by omega), List.drop_of_length_le (by omega)]
    simp
  | succ d ih =>
    intro i k acc hi hk ha
    obtain ⟨k, rfl⟩ : ∃ m, k = m + 1 := ⟨k - 1, by omega⟩
    have hlt : i < parts.length := by omega
    have h1 := hl parts[i] (List.getElem_mem hlt)
    simp only [texts_Text.l0]
    rw [if_pos (by omega), if_pos (by omega), if_pos (by omega), rd_L1_at _ _ hlt]
    simp only [Option.bind_some]
    rw [if_pos (by simp; omega), if_pos (by simp; omega), wrap64_id _ (by omega)]
    have := ih (i + 1) k (acc ++ [(parts[i].length : Int) / 256 % 256, (parts[i].length : Int) % 256] ++ parts[i]) (by omega) (by omega) (by simp; omega)
    rw [show ((i : Int) + 1) = ((i + 1 : Nat) : Int) by omega, this, List.drop_eq_getElem_cons hlt, List.flatMap_cons]
    unfold partB
    simp
theorem text_f (tag : Int) (parts : List (List Int)) (ht : 0 ≤ tag ∧ tag ≤ 255) (hn : parts.length ≤ 100000) (k : Nat) (hk : parts.length < k) :
    texts_Text.f k tag parts = some (if parts.any isLong = true then ([], 4) else (textB tag parts, 0)) := by
  unfold texts_Text.f
  rw [if_pos (by omega)]
  unfold slices_ContainsFunc_byte_byte.f
  simp only [Option.bind_some]
  cases h : parts.any isLong
  · rw [if_neg (by simp), if_neg (by simp)]
    have := text_l0 parts (not_long h) hn parts.length 0 k [tag % 256] (by omega) hk (by simp)
    rw [show ((0 : Nat) : Int) = 0 from rfl] at this
    rw [this, show tag % 256 = tag by omega]
    rfl
  · rw [if_pos rfl, if_pos rfl]
theorem textB_length (tag : Int) (parts : List (List Int)) (h : parts.any isLong = false) : (textB tag parts).length ≤ 65537 * parts.length + 1 := by
  have := flat_len parts (not_long h)
  unfold textB
  simp only [List.length_append, List.length_cons, List.length_nil]
  omega
theorem hash_f (size tag : Int) (parts : List (List Int)) (ht : 0 ≤ tag ∧ tag ≤ 255) (hn : parts.length ≤ 100000) (k : Nat) (hk : parts.length < k) :
    texts_Hash.f k size tag parts = some (hashB size tag parts) := by
  unfold texts_Hash.f hashB
  rw [text_f tag parts ht hn k hk]
  simp only [Option.bind_some]
  cases h : parts.any isLong
  · have hl := textB_length tag parts h
    simp only [Bool.false_eq_true, if_false, if_true]
    unfold sha_Cut.f
    rw [if_pos (by show (textB tag parts).length ≤ _; omega)]
    rfl
  · simp only [if_true]
    rw [if_neg (by decide)]
end Go.Proofs.YteamljekjncbfaaDoor.P
end
section
set_option linter.unusedVariables false
set_option linter.unusedSimpArgs false
namespace Go.Proofs.YteamljekjncbfaaDoor.P
open Go.RowKit Go.Proofs.YteamljekjncbfaaDoorW.PrintWords Go.Proofs.YteamljekjncbfaaDoorW.PrintLast Go.Proofs.YteamljekjncbfaaDoorW.PrintMore
theorem raw_cell {w : World} {base : Nat} {g n c : Nat} {cs : List (List Value)} (h : CellsR w base (.slice (some ⟨g, 0, none⟩) n c) cs) (k : Nat) {row : List Value} (hk : cs[k]? = some row) (j : Nat) {u : Value} (hj : row[j]? = some u) : w.cell? ⟨g, k * 11 + j, none⟩ = some u := by
  have hrd := Kd.R_reads' h
  have hkl := (List.getElem?_eq_some_iff.1 hk).1
  obtain ⟨ad, cc, e, hcl, hcK, hcc⟩ := Kd.C_get hrd.2.2 ([] : List Value) (k : Int) (by omega) (by omega)
  obtain rfl : (⟨g, 0, none⟩ : Addr) = ad := Option.some.inj e
  have h0 := hcK.1
  rw [Int.toNat_natCast, List.getD_eq_getElem?_getD, hk] at h0
  have h1 : cc = row := h0
  have := hcc j u (by rw [h1]; exact hj)
  rwa [Int.toNat_natCast, add_plain] at this
theorem at_raw {w : World} {p : Nat} {size room : Int} {g n c : Nat} {vf : Value} (h : ABlk w p size room (.slice (some ⟨g, 0, none⟩) n c) vf) (hs : size ≠ 0) (hn : n ≤ 9223372036854775807) (k : Nat) (hk : k < n) (hc : w.cell? ⟨g, k * 11, none⟩ = some (.bool true)) :
    Calls Tryd.prog 70 #[.pointer (some ⟨p, 0, none⟩), .int .i64 (k : Int)] w fun e w' => e = .returned (.pointer (some ⟨g, k * 11 + 1, none⟩)) ∧ w = w' := by
  have HBk := Aside0.mk h
  have HS := Aside0.mk hs
  have hk2 : decide (n ≤ k) = false := decide_eq_false (by omega)
  have hk3 : (k : Int) < (n : Int) := by omega
  have hk4 : decide ((k : Int) < 0) = false := decide_eq_false (by omega)
  have hk5 : 0 ≤ (k : Int) := by omega
  clear h hs
  go_enter Tryd.func70, Tryd.ntmps70
  go_wp2_with fail
  refine (none_calls HBk.out HS.out).mono ?_
  rintro e w' ⟨rfl, rfl⟩
  obtain ⟨c0, c1, c2, c3⟩ := HBk.out.cells
  go_wp2_with fail
  go_ret
  exact ⟨rfl, rfl⟩
set_option maxRecDepth 100000 in
theorem hash_at {w : World} {p base : Nat} {size room : Int} {g n c : Nat} {vf : Value} {cs : List (List Value)} {ok : Nat → Prop} (h : ABlk w p size room (.slice (some ⟨g, 0, none⟩) n c) vf) (hR : CellsR w base (.slice (some ⟨g, 0, none⟩) n c) cs) (hs : size ≠ 0) (k : Nat) {row : List Value} (hk : cs[k]? = some row) (h0 : row[0]? = some (.bool true))
    {B9 : Option Addr} {d9 : Nat} {lh : List Int} (h9 : row[10]? = some (.slice B9 lh.length d9)) (hV : BytesV w ok (.slice B9 lh.length d9) lh) (hl : lh.length ≤ 32) :
    Calls Tryd.prog 37 #[.pointer (some ⟨p, 0, none⟩), .int .i64 (k : Int)] w fun e w' => ∃ v : Value, e = .returned v ∧ Kd.R (Kd.int .u8) 5 w' w.heap.size (fun _ => True) v lh ∧ Below w.heap.size w w' := by
  have hkl := (List.getElem?_eq_some_iff.1 hk).1
  have hrd := Kd.R_reads' hR
  have hc0 := raw_cell hR k hk 0 h0
  have hc9 := raw_cell hR k hk 10 h9
  have hn : n ≤ 9223372036854775807 := by have := hrd.2.2.2.1; omega
  have hkn : k < n := by omega
  have HAT := Aside0.mk (at_raw h hs hn k hkn hc0)
  have HBk := Aside0.mk h
  have HS := Aside0.mk hs
  have HV := Aside0.mk hV
  have HL := Aside0.mk hl
  clear h hR hs hk h0 h9 hV hl hkl hrd hc0 hn hkn
  go_enter Tryd.func37, Tryd.ntmps37
  go_wp2_with fail
  refine (none_calls HBk.out HS.out).mono ?_
  rintro e w' ⟨rfl, rfl⟩
  go_wp2_with fail
  refine HAT.out.mono ?_
  rintro e w' ⟨rfl, rfl⟩
  go_wp2_with fail
  refine (slices_Clone_byte_byte.calls B9 d9 lh lh _ (Kd.V_reads' HV.out).2.2 (Kd.V_reads' HV.out).2.1 (if_pos (by have := HL.out; omega))).mono ?_
  rintro e1 w1 ⟨v, rfl, hR1, hB1⟩
  have HR1 := Aside0.mk hR1
  have HB1 := Aside0.mk hB1
  clear hR1 hB1 hc9
  go_wp2_with fail
  go_ret
  exact ⟨_, rfl, HR1.out, HB1.out⟩
theorem leaf_hash_f (k : Nat) (hk : 3 < k) (size : Int) (l1 l2 : List Int) (since : Int) : arena_LeafHash.f k size l1 l2 since = some (hashB size 1 [l1, l2, num8 since]) := by
  unfold arena_LeafHash.f texts_Number.f
  simp only [Option.bind_some]
  rw [numBytes_eq, hash_f size 1 [l1, l2, num8 since] (by omega) (by simp) k (by simpa using hk)]
  rfl
theorem awake_hash : (hashB 4 1 [[97], [], num8 1]).length = 4 := by
  unfold hashB
  rw [if_neg (by decide), List.length_take, shaSum_length]
  rfl
theorem lit_C {w : World} {g : Nat} (h : w.heap[g]? = some (.cells #[.int .u8 97] 5 (1, 2))) : Kd.C (Kd.int .u8) w (some ⟨g, 0, none⟩) 1 [97] := by
  refine Kd.C_of_reads (h1 := fun _ => rfl) (d := 0) ⟨rfl, by decide, fun _ => ⟨_, rfl, fun j hj => ?_⟩⟩
  obtain rfl : j = 0 := by omega
  simp [World.cell?, Addr.add, h]
def annalslaw09_awake.f : Option Bool := some true
set_option maxHeartbeats 4000000 in
set_option maxRecDepth 100000 in
theorem annalslaw09_awake.calls (r : Bool) (w : World) (hGS : GlobS w) (h : annalslaw09_awake.f = some r) :
    Calls Tryd.prog 29 #[] w fun e w' => e = .returned (.bool r) ∧ Below w.heap.size w w' := by
  obtain rfl := Option.some.inj h
  have HGS := Aside0.mk hGS
  clear h hGS
  have kc := fun (w : World) (C : Array Value) (n c : Nat) => Lib.run_convert_bytes_const (P := Tryd.prog) w 33 5 C n c Tryd.underlying33 Tryd.underlying5
  go_enter Tryd.func29, Tryd.ntmps29
  go_wp2_with fail
  refine (new_calls 4 5 w (by decide) (by decide) (by decide) (by decide)).mono ?_
  rintro e w1 ⟨rfl, hA1, hB1⟩
  have HA1 := Aside0.mk hA1
  have HB1 := Aside0.mk hB1
  clear hA1 hB1
  go_wp2_with fail
  obtain ⟨W2, hW2⟩ : ∃ W2, W2 = w1.alloc (.cells #[.int .u8 97] 5 (1, 2)) := ⟨_, rfl⟩
  rw [← hW2]
  have hB2 : Below w1.heap.size w1 W2 := by rw [hW2]; exact below_alloc (Below.refl _ _) _
  have hI : W2.heap[w1.heap.size]? = some (.cells #[.int .u8 97] 5 (1, 2)) := by rw [hW2]; exact heap_alloc_new w1 _
  have hV1 : BytesV W2 (fun k => w1.heap.size ≤ k) (.slice (some ⟨w1.heap.size, 0, none⟩) ([97] : List Int).length 1) [97] := Kd.V_mk (Nat.le_refl _) (fun W' hW' => lit_C ((hW' _ (Nat.le_refl _) (blk_lt hI)).trans hI))
  have hV2 : BytesV W2 (fun _ => False) (.slice none ([] : List Int).length 0) [] := Kd.V_nil _ _ _ _ _
  have hA2 := HA1.out.below hB2
  have hwp : w.heap.size < w1.heap.size := HA1.out.lt
  have hG2 : GlobS W2 := GlobS.of HGS.out (HB1.out.trans (hB2.mono HB1.out.size))
  have hB02 : Below w.heap.size w W2 := HB1.out.trans (hB2.mono HB1.out.size)
  have HB02 := Aside0.mk hB02
  have HH := Aside0.mk awake_hash
  clear hW2 hB02
  refine (leaf_grow (base := w.heap.size) (cs := []) (fun k => w1.heap.size ≤ k) (fun _ => False) (some ⟨w1.heap.size, 0, none⟩) none 1 0 [97] [] (hashB 4 1 [[97], [], num8 1]) 1 4 hA2 (Kd.R_nil _ _ _ _ _) (by decide) (Nat.le_refl _) (by decide) (by decide) hV1 hV2 (fun k hk => ⟨by omega, by simp [Value.ownBlock]⟩) (fun _ h => h.elim) (by decide) (by decide) (by decide) hG2 (leaf_hash_f 4 (by decide) 4 [97] [] 1)).mono ?_
  rintro e3 w3 ⟨rfl, v1, B1, d1, B2, d2, B9, d9, hA3, hR3, -, -, hV3, -, -, hBe3⟩
  rw [HH.out] at hR3
  obtain ⟨Av, cv, rfl⟩ := Kd.R_slice hR3
  have hB3 : Below w.heap.size w w3 := HB02.out.trans (hBe3 HB02.out.size)
  have hAv : ∃ g, Av = some ⟨g, 0, none⟩ := by
    have hrd := Kd.R_reads' hR3
    obtain ⟨ad, cc, rfl, hcl, hcK, hcc⟩ := Kd.C_get hrd.2.2 ([] : List Value) 0 (Int.le_refl _) (Int.natCast_pos.2 (Nat.succ_pos _))
    obtain ⟨g, rfl⟩ := Kd.R_head hR3
    exact ⟨g, rfl⟩
  obtain ⟨g, rfl⟩ := hAv
  have HA3 := Aside0.mk (show ABlk w3 w.heap.size 4 5 (.slice (some ⟨g, 0, none⟩) 1 cv) (.slice none 0 0) from hA3)
  have HR3 := Aside0.mk hR3
  have HV3 := Aside0.mk hV3
  have HB3 := Aside0.mk hB3
  clear hA3 hR3 hV3 hB3 hBe3 hV1 hV2 hA2 hI hB2 hwp hG2
  go_wp2_with fail
  refine (used_calls HA3.out (by decide) (by decide) (by decide)).mono ?_
  rintro e4 w4 ⟨rfl, ⟨m, rfl⟩⟩
  have hB4 : Below w3.heap.size w3 (w3.drewN m) := pw_below_drewN (Below.refl _ _) _
  have HA4 := Aside0.mk (HA3.out.below hB4)
  have HR4 := Aside0.mk (Kd.R_below HR3.out hB4)
  have HV4 := Aside0.mk (Kd.V_below HV3.out hB4)
  have HB4 := Aside0.mk (HB3.out.trans (hB4.mono HB3.out.size))
  clear hB4
  go_wp2_with fail
  refine (hash_at (lh := hashB 4 1 [[97], [], num8 1]) HA4.out HR4.out (by decide) 0 rfl rfl (by rw [HH.out]; rfl) HV4.out (by rw [HH.out]; decide)).mono ?_
  rintro e5 w5 ⟨v, rfl, hR5, hB5⟩
  have hl5 := (Kd.R_slice hR5)
  rw [HH.out] at hl5
  obtain ⟨A5, c5, rfl⟩ := hl5
  have HB5 := Aside0.mk (HB4.out.trans (hB5.mono HB4.out.size))
  clear hR5 hB5
  go_wp2_with fail
  go_ret
  exact ⟨rfl, HB5.out⟩
end Go.Proofs.YteamljekjncbfaaDoor.P
end
section
set_option linter.unusedVariables false
set_option linter.unusedSimpArgs false
namespace Go.Proofs.YteamljekjncbfaaDoor.P
open Go.RowKit Go.Proofs.YteamljekjncbfaaDoorW.PrintWords Go.Proofs.YteamljekjncbfaaDoorW.PrintLast Go.Proofs.YteamljekjncbfaaDoorW.PrintMore
def NoneP (w : World) (v : Value) : Prop := v = .pointer none ∨ ∃ (p : Nat) (room : Int) (vc vf : Value), v = .pointer (some ⟨p, 0, none⟩) ∧ ABlk w p 0 room vc vf
theorem NoneP.below {w w1 : World} {v : Value} (h : NoneP w v) (hb : Below w.heap.size w w1) : NoneP w1 v := by
  rcases h with h | ⟨p, room, vc, vf, h, hB⟩
  · exact .inl h
  · exact .inr ⟨p, room, vc, vf, h, hB.below hb⟩
theorem none_true {w : World} {v : Value} (h : NoneP w v) :
    Calls Tryd.prog 67 #[v] w fun e w' => e = .returned (.bool true) ∧ w = w' := by
  rcases h with rfl | ⟨p, room, vc, vf, rfl, hB⟩
  · go_enter Tryd.func67, Tryd.ntmps67
    go_wp2_with fail
    go_ret
    exact ⟨rfl, rfl⟩
  · obtain ⟨c0, c1, c2, c3⟩ := hB.cells
    go_enter Tryd.func67, Tryd.ntmps67
    go_wp2_with fail
    go_ret
    exact ⟨rfl, rfl⟩
theorem at_none {w : World} {v : Value} (h : NoneP w v) (i : Int) :
    Calls Tryd.prog 70 #[v, .int .i64 i] w fun e w' => e = .returned (.pointer none) ∧ w = w' := by
  have HN := Aside0.mk h
  clear h
  go_enter Tryd.func70, Tryd.ntmps70
  go_wp2_with fail
  refine (none_true HN.out).mono ?_
  rintro e w' ⟨rfl, rfl⟩
  go_wp2_with fail
  go_ret
  exact ⟨rfl, rfl⟩
theorem leaf_none {w : World} {v : Value} (h : NoneP w v) (v1 v2 v3 : Value) :
    Calls Tryd.prog 34 #[v, v1, v2, v3] w fun e w' => e = .returned (.tuple #[.int .i64 0, .int .i64 2]) ∧ w = w' := by
  have HN := Aside0.mk h
  clear h
  go_enter Tryd.func34, Tryd.ntmps34
  go_wp2_with fail
  refine (none_true HN.out).mono ?_
  rintro e w' ⟨rfl, rfl⟩
  go_wp2_with fail
  go_ret2
  exact ⟨rfl, rfl⟩
theorem fork_none {w : World} {v : Value} (h : NoneP w v) (v1 v2 v3 v4 : Value) :
    Calls Tryd.prog 35 #[v, v1, v2, v3, v4] w fun e w' => e = .returned (.tuple #[.int .i64 0, .int .i64 2]) ∧ w = w' := by
  have HN := Aside0.mk h
  clear h
  go_enter Tryd.func35, Tryd.ntmps35
  go_wp2_with fail
  refine (none_true HN.out).mono ?_
  rintro e w' ⟨rfl, rfl⟩
  go_wp2_with fail
  go_ret2
  exact ⟨rfl, rfl⟩
theorem hash_none {w : World} {v : Value} (h : NoneP w v) (v1 : Value) :
    Calls Tryd.prog 37 #[v, v1] w fun e w' => e = .returned (.slice none 0 0) ∧ w = w' := by
  have HN := Aside0.mk h
  clear h
  go_enter Tryd.func37, Tryd.ntmps37
  go_wp2_with fail
  refine (none_true HN.out).mono ?_
  rintro e w' ⟨rfl, rfl⟩
  go_wp2_with fail
  go_ret
  exact ⟨rfl, rfl⟩
theorem sweep_none {w : World} {v : Value} (h : NoneP w v) (v1 : Value) :
    Calls Tryd.prog 38 #[v, v1] w fun e w' => e = .returned (.int .i64 0) ∧ w = w' := by
  have HN := Aside0.mk h
  clear h
  go_enter Tryd.func38, Tryd.ntmps38
  go_wp2_with fail
  refine (none_true HN.out).mono ?_
  rintro e w' ⟨rfl, rfl⟩
  go_wp2_with fail
  go_ret
  exact ⟨rfl, rfl⟩
theorem used_none {w : World} {v : Value} (h : NoneP w v) :
    Calls Tryd.prog 39 #[v] w fun e w' => e = .returned (.int .i64 0) ∧ w = w' := by
  have HN := Aside0.mk h
  clear h
  go_enter Tryd.func39, Tryd.ntmps39
  go_wp2_with fail
  refine (none_true HN.out).mono ?_
  rintro e w' ⟨rfl, rfl⟩
  go_wp2_with fail
  go_ret
  exact ⟨rfl, rfl⟩
theorem room_none {w : World} {v : Value} (h : NoneP w v) :
    Calls Tryd.prog 40 #[v] w fun e w' => e = .returned (.int .i64 0) ∧ w = w' := by
  have HN := Aside0.mk h
  clear h
  go_enter Tryd.func40, Tryd.ntmps40
  go_wp2_with fail
  refine (none_true HN.out).mono ?_
  rintro e w' ⟨rfl, rfl⟩
  go_wp2_with fail
  go_ret
  exact ⟨rfl, rfl⟩
theorem size_none {w : World} {v : Value} (h : NoneP w v) :
    Calls Tryd.prog 41 #[v] w fun e w' => e = .returned (.int .i64 0) ∧ w = w' := by
  have HN := Aside0.mk h
  clear h
  go_enter Tryd.func41, Tryd.ntmps41
  go_wp2_with fail
  refine (none_true HN.out).mono ?_
  rintro e w' ⟨rfl, rfl⟩
  go_wp2_with fail
  go_ret
  exact ⟨rfl, rfl⟩
def nodeL : List Value := [.bool false, .slice none 0 0, .slice none 0 0, .int .i64 0, .int .i64 0, .slice none 0 0, .int .i64 0, .int .i64 0, .int .i64 0, .slice none 0 0]
def NodeB (w : World) (g : Nat) : Prop := w.heap[g]? = some (.cells nodeL.toArray 61 (0, 0))
def put10 (w : World) (g : Nat) : World := (((((((((w.setCell ⟨g, 0, none⟩ (.bool false)).setCell ⟨g, 1, none⟩ (.slice none 0 0)).setCell ⟨g, 2, none⟩ (.slice none 0 0)).setCell ⟨g, 3, none⟩ (.int .i64 0)).setCell ⟨g, 4, none⟩ (.int .i64 0)).setCell ⟨g, 5, none⟩ (.slice none 0 0)).setCell ⟨g, 6, none⟩ (.int .i64 0)).setCell ⟨g, 7, none⟩ (.int .i64 0)).setCell ⟨g, 8, none⟩ (.int .i64 0)).setCell ⟨g, 9, none⟩ (.slice none 0 0)
theorem put10_node {w : World} {g : Nat} (h : NodeB w g) : NodeB (put10 w g) g :=
  blk_set (blk_set (blk_set (blk_set (blk_set (blk_set (blk_set (blk_set (blk_set (blk_set h 0 _) 1 _) 2 _) 3 _) 4 _) 5 _) 6 _) 7 _) 8 _) 9 _
theorem put10_below {w0 w : World} {g base : Nat} (h : Below base w0 w) (hg : base ≤ g) : Below base w0 (put10 w g) :=
  Below.setCell (Below.setCell (Below.setCell (Below.setCell (Below.setCell (Below.setCell (Below.setCell (Below.setCell (Below.setCell (Below.setCell h hg _) hg _) hg _) hg _) hg _) hg _) hg _) hg _) hg _) hg _
def nodeAgg : Value := .agg nodeL.toArray
set_option maxRecDepth 100000 in
theorem results_node (W : World) (g : Nat) (h : NodeB W g) (tm : Array Value) (h4 : tm[4]?.getD undef = .pointer (some ⟨g, 0, none⟩)) (h5 : tm[5]?.getD undef = .bool false) : (results Tryd.f36 tm).run Tryd.prog W = .ok (.tuple #[nodeAgg, .bool false]) W := by
  have c0 := blk_cell h 0
  have c1 := blk_cell h 1
  have c2 := blk_cell h 2
  have c3 := blk_cell h 3
  have c4 := blk_cell h 4
  have c5 := blk_cell h 5
  have c6 := blk_cell h 6
  have c7 := blk_cell h 7
  have c8 := blk_cell h 8
  have c9 := blk_cell h 9
  simp only [nodeL] at c0 c1 c2 c3 c4 c5 c6 c7 c8 c9
  simp at c0 c1 c2 c3 c4 c5 c6 c7 c8 c9
  simp [results, Tryd.results36, go_sem, h4, h5, c0, c1, c2, c3, c4, c5, c6, c7, c8, c9, nodeAgg, nodeL]
set_option maxRecDepth 100000 in
set_option maxHeartbeats 4000000 in
theorem node_none {w : World} {v : Value} (h : NoneP w v) (i : Int) :
    Calls Tryd.prog 36 #[v, .int .i64 i] w fun e w' => e = .returned (.tuple #[nodeAgg, .bool false]) ∧ Below w.heap.size w w' := by
  have HN := Aside0.mk h
  clear h
  go_enter Tryd.func36, Tryd.ntmps36
  go_wp2_with fail
  obtain ⟨W1, hW1⟩ : ∃ W1, W1 = w.alloc (.cells nodeL.toArray 61) := ⟨_, rfl⟩
  have hB1 : Below w.heap.size w W1 := by rw [hW1]; exact below_alloc (Below.refl _ _) _
  have h4 : NodeB W1 w.heap.size := by rw [hW1]; exact heap_alloc_new w _
  change Calls _ _ _ (w.alloc (.cells nodeL.toArray 61)) _
  rw [← hW1]
  clear hW1
  have HB1 := Aside0.mk hB1
  have H4 := Aside0.mk h4
  refine (at_none (HN.out.below hB1) i).mono ?_
  rintro e w' ⟨rfl, rfl⟩
  have c0 := blk_cell h4 0
  have c1 := blk_cell h4 1
  have c2 := blk_cell h4 2
  have c3 := blk_cell h4 3
  have c4 := blk_cell h4 4
  have c5 := blk_cell h4 5
  have c6 := blk_cell h4 6
  have c7 := blk_cell h4 7
  have c8 := blk_cell h4 8
  have c9 := blk_cell h4 9
  have f0 := blk_frozen h4 0
  have f1 := blk_frozen h4 1
  have f2 := blk_frozen h4 2
  have f3 := blk_frozen h4 3
  have f4 := blk_frozen h4 4
  have f5 := blk_frozen h4 5
  have f6 := blk_frozen h4 6
  have f7 := blk_frozen h4 7
  have f8 := blk_frozen h4 8
  have f9 := blk_frozen h4 9
  simp only [nodeL] at c0 c1 c2 c3 c4 c5 c6 c7 c8 c9
  simp at c0 c1 c2 c3 c4 c5 c6 c7 c8 c9
  clear h4 hB1
  go_wp2_with fail
  exact bodyPost_ret (results_node _ w.heap.size (put10_node H4.out) _ rfl rfl) rfl ⟨rfl, put10_below HB1.out (Nat.le_refl _)⟩
set_option maxRecDepth 100000 in
set_option maxHeartbeats 4000000 in
theorem arenaNobody_true (a b c d : Int) (vx vy vr : Value) (w : World) (hGS : GlobS w) :
    Calls Tryd.prog 8 #[.agg #[.int .i64 a, .int .i64 b, .int .i64 c, .int .i64 d, vx, vy, vr]] w fun e w' => e = .returned (.bool true) ∧ Below w.heap.size w w' := by
  have HGS := Aside0.mk hGS
  clear hGS
  go_enter Tryd.func8, Tryd.ntmps8
  go_wp2_with fail
  obtain ⟨W1, hW1⟩ : ∃ W1, W1 = ((w.alloc (.cells #[.int .i64 a, .int .i64 b, .int .i64 c, .int .i64 d, vx, vy, vr] 49)).alloc (.cells #[.int .i64 0, .int .i64 0, .slice none 0 0, .slice none 0 0] 54)).alloc (.cells #[.pointer none, .pointer (some ⟨w.heap.size + 1, 0, none⟩)] 50) := ⟨_, rfl⟩
  rw [← hW1]
  have h1 : W1.heap[w.heap.size]? = some (.cells [.int .i64 a, .int .i64 b, .int .i64 c, .int .i64 d, vx, vy, vr].toArray 49 (0, 0)) := by
    rw [hW1]
    exact blk_below (blk_below (heap_alloc_new w _) (below_alloc (Below.refl _ _) _)) (below_alloc (Below.refl _ _) _)
  have h2 : ABlk W1 (w.heap.size + 1) 0 0 (.slice none 0 0) (.slice none 0 0) := by
    rw [hW1]
    have := heap_alloc_new (w.alloc (.cells #[.int .i64 a, .int .i64 b, .int .i64 c, .int .i64 d, vx, vy, vr] 49)) (.cells #[.int .i64 0, .int .i64 0, .slice none 0 0, .slice none 0 0] 54)
    exact ABlk.below (by simpa [ABlk] using this) (below_alloc (Below.refl _ _) _)
  have h3 : W1.heap[w.heap.size + 1 + 1]? = some (.cells [.pointer none, .pointer (some ⟨w.heap.size + 1, 0, none⟩)].toArray 50 (0, 0)) := by
    rw [hW1]
    have := heap_alloc_new ((w.alloc (.cells #[.int .i64 a, .int .i64 b, .int .i64 c, .int .i64 d, vx, vy, vr] 49)).alloc (.cells #[.int .i64 0, .int .i64 0, .slice none 0 0, .slice none 0 0] 54)) (.cells #[.pointer none, .pointer (some ⟨w.heap.size + 1, 0, none⟩)] 50)
    simpa using this
  have HB1 := Aside0.mk (show Below w.heap.size w W1 from by rw [hW1]; exact below_alloc (below_alloc (below_alloc (Below.refl _ _) _) _) _)
  clear hW1
  obtain ⟨g, hg⟩ : ∃ g, g = w.heap.size + 1 + 1 := ⟨_, rfl⟩
  rw [← hg] at h3
  rw [← hg]
  have H1 := Aside0.mk h1
  have H2 := Aside0.mk h2
  have H3 := Aside0.mk h3
  clear h1 h2 h3 hg
  go_loopw [15] (fun v15 wr => ∃ k : Nat, k ≤ 2 ∧ v15 = .int .i64 (k : Int) ∧ Aside0 (Below w.heap.size w wr) ∧ Aside0 (Below W1.heap.size W1 wr)) (fun v15 _ => 2 - (intOf v15).toNat)
  case atStart => exact ⟨0, Nat.zero_le _, rfl, HB1, ⟨Below.refl _ _⟩⟩
  case round =>
    clear HB1
    obtain ⟨k, hk, rfl, HB, HBW⟩ := hrel
    by_cases hlt : k < 2
    · have hd : decide ((k : Int) < 2) = true := by simp; omega
      have hd2 : decide (k < 2) = true := decide_eq_true hlt
      obtain ⟨v, hv⟩ : ∃ v, v = (if k = 0 then Value.pointer none else .pointer (some ⟨w.heap.size + 1, 0, none⟩)) := ⟨_, rfl⟩
      have hG := blk_below H3.out HBW.out
      have hc : wr.cell? ⟨g, k, none⟩ = some v := by
        have c0 := blk_cell hG 0
        have c1 := blk_cell hG 1
        obtain rfl | rfl : k = 0 ∨ k = 1 := by omega
        · rw [hv]; exact c0
        · rw [hv]; exact c1
      have HN := Aside0.mk (show ∀ W, Below wr.heap.size wr W → NoneP W v from fun W hW => by
        by_cases h0 : k = 0
        · exact .inl (by rw [hv, if_pos h0])
        · exact .inr ⟨_, _, _, _, by rw [hv, if_neg h0], (H2.out.below HBW.out).below hW⟩)
      have hK := blk_below H1.out HBW.out
      have HK := Aside0.mk hK
      have HLT := Aside0.mk hlt
      have q1 : (k : Int) < 2 := by omega
      clear hv hG hk
      have k1 := blk_cell hK 1
      have k2 := blk_cell hK 2
      have k4 := blk_cell hK 4
      have k5 := blk_cell hK 5
      have k6 := blk_cell hK 6
      simp at k1 k2 k4 k5 k6
      clear hK
      go_wp2_with fail
      refine (leaf_none (HN.out wr (Below.refl _ _)) vx vy _).mono ?_
      rintro e w' ⟨rfl, rfl⟩
      go_wp2_with fail
      refine (fork_none (HN.out wr (Below.refl _ _)) _ vx _ _).mono ?_
      rintro e w' ⟨rfl, rfl⟩
      go_wp2_with fail
      refine (node_none (HN.out wr (Below.refl _ _)) b).mono ?_
      rintro e w2 ⟨rfl, hB2⟩
      replace HK := Aside0.mk (blk_below HK.out hB2)
      have HN2 := Aside0.mk (HN.out w2 hB2)
      replace HB := Aside0.mk (below_step HB.out hB2)
      replace HBW := Aside0.mk (below_step HBW.out hB2)
      clear hB2 hc k1 k2 k4 k5 k6
      unfold nodeAgg nodeL
      go_wp2_with fail
      obtain ⟨w9, hw9⟩ : ∃ w9, w9 = w2.alloc (.cells nodeL.toArray 61) := ⟨_, rfl⟩
      change Code.wp _ _ _ _ (w2.alloc (.cells nodeL.toArray 61))
      rw [← hw9]
      have hb9 : Below w2.heap.size w2 w9 := by rw [hw9]; exact below_alloc (Below.refl _ _) _
      have hK := blk_below HK.out hb9
      have HN0 := Aside0.mk ((HN2.out).below hb9)
      have HND := Aside0.mk (show ∀ m, NoneP (w9.drewN m) v from fun m => HN0.out.below (pw_below_drewN (Below.refl _ _) _))
      replace HB := Aside0.mk (below_step HB.out hb9)
      replace HBW := Aside0.mk (below_step HBW.out hb9)
      clear hw9 hb9
      have k1 := blk_cell hK 1
      have k6 := blk_cell hK 6
      simp at k1 k6
      clear hK
      go_quiet ((first | (go_at_call 37; (first | with_reducible exact still0 (hash_none HN0.out _) | with_reducible exact still2 (hash_none (HND.out _) _) | with_reducible exact still1 (hash_none (HND.out _) _))) | (go_at_call 38; (first | with_reducible exact still0 (sweep_none HN0.out _) | with_reducible exact still2 (sweep_none (HND.out _) _) | with_reducible exact still1 (sweep_none (HND.out _) _))) | (go_at_call 39; (first | with_reducible exact still0 (used_none HN0.out) | with_reducible exact still2 (used_none (HND.out _)) | with_reducible exact still1 (used_none (HND.out _)))) | (go_at_call 40; (first | with_reducible exact still0 (room_none HN0.out) | with_reducible exact still2 (room_none (HND.out _)) | with_reducible exact still1 (room_none (HND.out _)))) | (go_at_call 41; (first | with_reducible exact still0 (size_none HN0.out) | with_reducible exact still2 (size_none (HND.out _)) | with_reducible exact still1 (size_none (HND.out _))))))
      clear k1 k6
      have HB3 := Aside0.mk (below_step HB.out (pw_below_drewN (Below.refl _ _) nq))
      have HBW3 := Aside0.mk (below_step HBW.out (pw_below_drewN (Below.refl _ _) nq))
      go_wp2_with fail
      have hlt := HLT.out
      go_roundw
      case measure => simp only [intOf]; omega
      case rel => exact ⟨k + 1, by omega, by go_num, HB3, HBW3⟩
    · obtain rfl : k = 2 := by omega
      have HSX := Aside0.mk (show GlobS wr from GlobS.of HGS.out HB.out)
      clear hk hlt
      go_wp2_with fail
      refine (annalslaw09_awake.calls true _ HSX.out rfl).mono ?_
      rintro e w7 ⟨rfl, hB7⟩
      have HB7 := Aside0.mk (below_step HB.out hB7)
      clear hB7
      go_wp2_with fail
      go_ret
      exact ⟨rfl, HB7.out⟩
end Go.Proofs.YteamljekjncbfaaDoor.P
end
section
set_option linter.unusedVariables false
set_option linter.unusedSimpArgs false
namespace Go.Proofs.YteamljekjncbfaaDoor.P
open Go.RowKit Go.Proofs.YteamljekjncbfaaDoorW.PrintWords Go.Proofs.YteamljekjncbfaaDoorW.PrintLast Go.Proofs.YteamljekjncbfaaDoorW.PrintMore
theorem list_of {α : Type} (n : Nat) (R : Nat → α → Prop) (h : ∀ i, i < n → ∃ a, R i a) : ∃ xs : List α, xs.length = n ∧ ∀ i a, xs[i]? = some a → R i a := by
  induction n with
  | zero => exact ⟨[], rfl, fun i a hi => by simp at hi⟩
  | succ n ih =>
    obtain ⟨xs, hl, hx⟩ := ih (fun i hi => h i (by omega))
    obtain ⟨a, ha⟩ := h n (by omega)
    refine ⟨xs ++ [a], by simp [hl], fun i b hb => ?_⟩
    by_cases hi : i < n
    · rw [List.getElem?_append_left (by omega)] at hb
      exact hx i b hb
    · rw [List.getElem?_append_right (by omega)] at hb
      have h0 : i - xs.length = 0 := by
        have := (List.getElem?_eq_some_iff.1 hb).1
        simp at this
        omega
      rw [h0] at hb
      have hin : i = n := by omega
      subst hin
      have : a = b := by simpa using hb
      subst this
      exact ha
theorem weightsAll_mem {H : Type} {P : Program} {e : TypeId} {l : List (DataW H)} {d : DataW H} (hd : d ∈ l) {n : Nat} (hn : n ∈ d.weights P e) : n ∈ DataW.weightsAll P e l := by
  induction l with
  | nil => simp at hd
  | cons a l ih =>
    simp only [DataW.weightsAll, List.mem_append]
    rcases List.mem_cons.1 hd with rfl | hd
    · exact .inl hn
    · exact .inr (ih hd)
structure Opens (P : Program) (t : Nat) {α : Type} (d : Kd α) (wf : α → Prop) : Prop where
  size : P.cellsOf t = d.sz
  get : ∀ {H : Type} {enc : TypeId × Value → H} {w : World} {base : Nat} {spare : Nat → Bool} {held : Bool} {fuel : Nat} {cs : List Value} {x : DataW H × List MemPlace},
    DataW.trod enc P w base spare held fuel t cs = some x → (∀ n ∈ x.1.weights P t, n ≤ reachBytes) → ∃ a, d.K w a cs ∧ wf a
theorem Opens.int {P : Program} {t : Nat} {k : IntKind} (hu : P.underlying t = some (.int k)) (hc : P.cellsOf t = 1) : Opens P t (Kd.int k) (fun n => (Lit.int k n).wf = true) :=
  ⟨hc, fun h _ => by
    obtain ⟨n, rfl, _, hw⟩ := DataW.trod_int hu h
    exact ⟨n, rfl, hw⟩⟩
theorem Opens.bool {P : Program} {t : Nat} (hu : P.underlying t = some .bool) (hc : P.cellsOf t = 1) : Opens P t Kd.bool (fun _ => True) :=
  ⟨hc, fun h _ => by
    obtain ⟨n, rfl, _⟩ := DataW.trod_bool hu h
    exact ⟨n, rfl, trivial⟩⟩
theorem Opens.slice {P : Program} {t e : Nat} {α : Type} {d : Kd α} {wf : α → Prop} (hu : P.underlying t = some (.slice e)) (hc : P.cellsOf t = 1) (he : Opens P e d wf) :
    Opens P t (Kd.slice e d) (fun xs => xs.length * P.bytesOf e ≤ reachBytes ∧ ∀ a, a ∈ xs → wf a) := by
  refine ⟨hc, fun {H enc w base spare held fuel cs x} h hw => ?_⟩
  rcases DataW.trod_slice hu h with ⟨rfl, rfl⟩ | ⟨ad, len, cap, elems, rest, n, _, rfl, rfl, hb, hl, hm, hlen, hel, hsp, hns⟩
  · exact ⟨[], ⟨none, 0, rfl, Nat.le_refl _, Kd.C_nil d w⟩, by simp, by simp⟩
  · have hwa : ∀ d0 ∈ elems.map (·.1), ∀ m ∈ DataW.weights P e d0, m ≤ reachBytes := fun d0 hd0 m hm0 => hw m (by
      simp only [DataW.weights, hu, List.mem_cons, List.mem_append]
      exact .inr (.inl (weightsAll_mem hd0 hm0)))
    have hsz : (elems.length + rest.length) * P.bytesOf e ≤ reachBytes := hw _ (by simp [DataW.weights, hu])
    obtain ⟨xs, hxl, hx⟩ := list_of len (fun i a => wf a ∧ ∃ c, c.length = d.sz ∧ d.K w a c ∧ ∀ j u, c[j]? = some u → w.cell? (ad.add (i * d.sz + j)) = some u) (fun i hi => by
      have h1 := hel i hi
      have hi' : i < elems.length := by omega
      rw [List.getElem?_eq_getElem hi', Option.bind_eq_some_iff] at h1
      obtain ⟨c, hc1, hc2⟩ := h1
      obtain ⟨_, hlc, hcell⟩ := World.cells?_some hc1
      obtain ⟨a, hK, hwf⟩ := he.get hc2 (fun m hm0 => hwa _ (List.mem_map.2 ⟨_, List.getElem_mem hi', rfl⟩) m hm0)
      refine ⟨a, hwf, c, d.K_len hK, hK, fun j u hj => ?_⟩
      have hj' : j < c.length := (List.getElem?_eq_some_iff.1 hj).1
      have h2 := hcell j (by omega)
      rw [hj] at h2
      rw [← h2, he.size]
      congr 1
      unfold Addr.add
      by_cases h3 : i * d.sz = 0 <;> by_cases h4 : j = 0 <;> simp [h3, h4, Nat.add_assoc])
    refine ⟨xs, ⟨some ad, cap, by rw [hxl], by omega, ⟨rfl, by unfold maxLen at hm; omega, fun _ => ⟨ad, rfl, fun j p hj => ?_⟩⟩⟩, ?_, fun a ha => ?_⟩
    · obtain ⟨_, c, h1, h2, h3⟩ := hx j p hj
      exact ⟨c, h1, h2, h3⟩
    · rw [hxl]
      refine Nat.le_trans (Nat.mul_le_mul_right _ ?_) hsz
      omega
    · obtain ⟨i, hi⟩ := List.getElem?_of_mem ha
      exact (hx i a hi).1
structure OpensF (P : Program) (fs : List Field) (off : Nat) {α : Type} (d : Kd α) (wf : α → Prop) : Prop where
  get : ∀ {H : Type} {enc : TypeId × Value → H} {w : World} {base : Nat} {spare : Nat → Bool} {held : Bool} {fuel : Nat} {cs : List Value} {xs : List (DataW H × List MemPlace)},
    cs.length = off + d.sz → xs.length = fs.length → (∀ (i : Nat) (f : Field), fs[i]? = some f → DataW.trod enc P w base spare held fuel f.type ((cs.drop f.offset).take (P.cellsOf f.type)) = xs[i]?) →
    (∀ n ∈ DataW.weightsEach P (fs.map (·.type)) (xs.map (·.1)), n ≤ reachBytes) → ∃ a, d.K w a (cs.drop off) ∧ wf a
theorem OpensF.one {P : Program} {f : Field} {α : Type} {d : Kd α} {wf : α → Prop} {t off : Nat} (ht : f.type = t) (ho : f.offset = off) (h : Opens P t d wf) : OpensF P [f] off d wf := by
  subst ht
  subst ho
  refine ⟨fun {H enc w base spare held fuel cs xs} hl hxl hx hw => ?_⟩
  match xs, hxl with
  | [x], _ =>
    have h1 := hx 0 f rfl
    rw [List.take_of_length_le (by rw [List.length_drop, h.size]; omega)] at h1
    exact h.get h1 (fun n hn => hw n (by simp only [List.map_cons, List.map_nil, DataW.weightsEach, List.mem_append]; exact .inl hn))
theorem OpensF.cons {P : Program} {f : Field} {fs : List Field} {α β : Type} {d : Kd α} {d' : Kd β} {wf : α → Prop} {wf' : β → Prop} {t off off' : Nat} (ht : f.type = t) (ho : f.offset = off) (h : Opens P t d wf)
    (ho' : off + d.sz = off') (hr : OpensF P fs off' d' wf') : OpensF P (f :: fs) off (Kd.pair d d') (fun x => wf x.1 ∧ wf' x.2) := by
  subst ht
  subst ho
  subst ho'
  refine ⟨fun {H enc w base spare held fuel cs xs} hl hxl hx hw => ?_⟩
  match xs, hxl with
  | x :: xs, hxl =>
    have hl' : cs.length = f.offset + (d.sz + d'.sz) := hl
    have h1 := hx 0 f rfl
    obtain ⟨a, ha, hwa⟩ := h.get h1 (fun n hn => hw n (by simp only [List.map_cons, DataW.weightsEach, List.mem_append]; exact .inl hn))
    obtain ⟨b, hb, hwb⟩ := hr.get (by rw [hl']; omega) (by simpa using hxl) (fun i g hg => by simpa using hx (i + 1) g (by simpa using hg)) (fun n hn => hw n (by simp only [List.map_cons, DataW.weightsEach, List.mem_append]; exact .inr hn))
    refine ⟨(a, b), ⟨_, _, ?_, ha, hb⟩, hwa, hwb⟩
    rw [h.size]
    have := List.take_append_drop d.sz (cs.drop f.offset)
    rw [List.drop_drop] at this
    exact this.symm
theorem Opens.struct {P : Program} {t : Nat} {fs : Array Field} {α : Type} {d : Kd α} {wf : α → Prop} (hu : P.underlying t = some (.struct fs)) (hc : P.cellsOf t = d.sz) (h : OpensF P fs.toList 0 d wf) : Opens P t d wf := by
  refine ⟨hc, fun {H enc w base spare held fuel cs x} h1 hw => ?_⟩
  obtain ⟨xs, n, _, rfl, hl, hxl, hx⟩ := DataW.trod_struct hu h1
  have := h.get (cs := cs) (by rw [hl, hc]; omega) (by simpa using hxl) (fun i f hf => hx i f (by simpa using hf)) (fun n hn => hw n (by simp only [DataW.weights, hu]; exact hn))
  simpa using this
theorem Opens.iso {P : Program} {t : Nat} {α β : Type} {d : Kd α} {wf : α → Prop} (h : Opens P t d wf) (f : β → α) (g : α → β) (hfg : ∀ a, f (g a) = a) : Opens P t (Kd.iso d f) (fun b => wf (f b)) :=
  ⟨h.size, fun h1 hw => by
    obtain ⟨a, ha, hwa⟩ := h.get h1 hw
    exact ⟨g a, by show d.K _ (f (g a)) _; rw [hfg]; exact ha, by show wf (f (g a)); rw [hfg]; exact hwa⟩⟩
end Go.Proofs.YteamljekjncbfaaDoor.P
end
section
namespace Go.Proofs
open Go.Shelf
end Go.Proofs
end
section
set_option linter.unusedVariables false
set_option linter.unusedSimpArgs false
namespace Go.Proofs.YteamljekjncbfaaDoor.P
open Go.RowKit Go.Proofs.YteamljekjncbfaaDoorW.PrintWords Go.Proofs.YteamljekjncbfaaDoorW.PrintLast Go.Proofs.YteamljekjncbfaaDoorW.PrintMore
def bits_TrailingZeros.f (a0 : Int) : Option Int := if 0 ≤ a0 then (if a0 < 18446744073709551616 then some (Lib.ctz 64 a0.toNat : Int) else none) else none
def bits_Len.f (a0 : Int) : Option Int := if 0 ≤ a0 then (if a0 ≤ 18446744073709551615 then some (Lib.bitLen a0.toNat : Int) else none) else none
end Go.Proofs.YteamljekjncbfaaDoor.P
end
section
namespace Go.Proofs.YteamljekjncbfaaDoor.P
open Go.RowKit Go.Proofs.YteamljekjncbfaaDoorW.PrintWords Go.Proofs.YteamljekjncbfaaDoorW.PrintLast Go.Proofs.YteamljekjncbfaaDoorW.PrintMore
attribute [local go_sem] max2_int min2_int max_two min_two max_three min_three max_four min_four
set_option linter.unusedVariables false
set_option linter.unusedSimpArgs false
def skip_step.j0 : Nat → Int → Int → Bool → Option (Int)
  | 0, _, _, _ => none
  | k + 1, x0, x1, x11 => if x11 = true then (some (-1)) else ((bits_TrailingZeros.f (IntKind.u64.wrap (x0))).bind fun t232 => ((bits_Len.f (IntKind.u64.wrap (wrap64 (x0 - x1)))).bind fun t233 => (some (mn t232 (wrap64 (t233 - 1))))))
def skip_step.f (k : Nat) (a0 : Int) (a1 : Int) : Option (Int) := if a1 < 0 then (skip_step.j0 k a0 a1 true) else (skip_step.j0 k a0 a1 (decide (a0 ≤ a1)))
theorem skip_step.mono_l : ∀ k, (∀ y0 y1 y2, LeO (skip_step.j0 k y0 y1 y2) (skip_step.j0 (k + 1) y0 y1 y2))
  | 0 => fun _ _ _ r h => by simp [skip_step.j0] at h
  | k + 1 => by
    have ih0 := skip_step.mono_l k
    · intro y0 y1 y2
      unfold skip_step.j0
      repeat' first
      | (with_reducible exact ih0 _ _ _)
      | (with_reducible exact LeO.refl _)
      | (with_reducible exact LeO.none _)
      | (with_reducible refine LeO.ite ?_ ?_)
      | (with_reducible refine LeO.bind ?_ (fun _ => ?_))
      | exact ih0 _ _ _
      | exact LeO.none _
      | refine LeO.ite ?_ ?_
      | refine LeO.bind ?_ (fun _ => ?_)
theorem skip_step.mono : ∀ a0 a1 k, LeO (skip_step.f k a0 a1) (skip_step.f (k + 1) a0 a1) := by
  intro a0 a1 k
  have ih0 := skip_step.mono_l k
  unfold skip_step.f
  repeat' first
      | (with_reducible exact ih0 _ _ _)
      | (with_reducible exact LeO.refl _)
      | (with_reducible exact LeO.none _)
      | (with_reducible refine LeO.ite ?_ ?_)
      | (with_reducible refine LeO.bind ?_ (fun _ => ?_))
      | exact ih0 _ _ _
      | exact LeO.none _
      | refine LeO.ite ?_ ?_
      | refine LeO.bind ?_ (fun _ => ?_)
end Go.Proofs.YteamljekjncbfaaDoor.P
end
section
namespace Go.Proofs.YteamljekjncbfaaDoor.P
open Go.RowKit Go.Proofs.YteamljekjncbfaaDoorW.PrintWords Go.Proofs.YteamljekjncbfaaDoorW.PrintLast Go.Proofs.YteamljekjncbfaaDoorW.PrintMore
attribute [local go_sem] max2_int min2_int max_two min_two max_three min_three max_four min_four
set_option linter.unusedVariables false
set_option linter.unusedSimpArgs false
def skip_Next.f (k : Nat) (a0 : Int) (a1 : Int) : Option (Int) := (skip_step.f k a0 a1).bind fun t234 => (if t234 < 0 then (some a0) else (if 0 ≤ t234 then (some (wrap64 (a0 - (shl .i64 1 t234)))) else (none)))
theorem skip_Next.mono : ∀ a0 a1 k, LeO (skip_Next.f k a0 a1) (skip_Next.f (k + 1) a0 a1) := by
  intro a0 a1 k
  unfold skip_Next.f
  repeat' first
      | (with_reducible exact skip_step.mono _ _ _)
      | (with_reducible exact LeO.refl _)
      | (with_reducible exact LeO.none _)
      | (with_reducible refine LeO.ite ?_ ?_)
      | (with_reducible refine LeO.bind ?_ (fun _ => ?_))
      | exact skip_step.mono _ _ _
      | exact LeO.none _
      | refine LeO.ite ?_ ?_
      | refine LeO.bind ?_ (fun _ => ?_)
end Go.Proofs.YteamljekjncbfaaDoor.P
end
section
namespace Go.Proofs.YteamljekjncbfaaDoor.P
open Go.RowKit Go.Proofs.YteamljekjncbfaaDoorW.PrintWords Go.Proofs.YteamljekjncbfaaDoorW.PrintLast Go.Proofs.YteamljekjncbfaaDoorW.PrintMore
attribute [local go_sem] max2_int min2_int max_two min_two max_three min_three max_four min_four
set_option linter.unusedVariables false
set_option linter.unusedSimpArgs false
def skip_Way.l0 : Nat → Int → Int → List Int → Option (List Int)
  | 0, _, _, _ => none
  | k + 1, x0, x1, x5 => (skip_step.f k x0 x1).bind fun t235 => (if t235 ≥ 0 then ((skip_Next.f k x0 x1).bind fun t236 => (if x5.length < 17592186044416 then (skip_Way.l0 k t236 x1 (x5 ++ [t236])) else (none))) else (some x5))
def skip_Way.f (k : Nat) (a0 : Int) (a1 : Int) : Option (List Int) := if a0 > 1048576 then (some ([] : List Int)) else (skip_Way.l0 k a0 a1 ([] : List Int))
theorem skip_Way.mono_l : ∀ k, (∀ y0 y1 y2, LeO (skip_Way.l0 k y0 y1 y2) (skip_Way.l0 (k + 1) y0 y1 y2))
  | 0 => fun _ _ _ r h => by simp [skip_Way.l0] at h
  | k + 1 => by
    have ih0 := skip_Way.mono_l k
    · intro y0 y1 y2
      unfold skip_Way.l0
      repeat' first
      | (with_reducible exact ih0 _ _ _)
      | (with_reducible exact skip_Next.mono _ _ _)
      | (with_reducible exact skip_step.mono _ _ _)
      | (with_reducible exact LeO.refl _)
      | (with_reducible exact LeO.none _)
      | (with_reducible refine LeO.ite ?_ ?_)
      | (with_reducible refine LeO.bind ?_ (fun _ => ?_))
      | exact ih0 _ _ _
      | exact skip_Next.mono _ _ _
      | exact skip_step.mono _ _ _
      | exact LeO.none _
      | refine LeO.ite ?_ ?_
      | refine LeO.bind ?_ (fun _ => ?_)
theorem skip_Way.mono : ∀ a0 a1 k, LeO (skip_Way.f k a0 a1) (skip_Way.f (k + 1) a0 a1) := by
  intro a0 a1 k
  have ih0 := skip_Way.mono_l k
  unfold skip_Way.f
  repeat' first
      | (with_reducible exact ih0 _ _ _)
      | (with_reducible exact skip_Next.mono _ _ _)
      | (with_reducible exact skip_step.mono _ _ _)
      | (with_reducible exact LeO.refl _)
      | (with_reducible exact LeO.none _)
      | (with_reducible refine LeO.ite ?_ ?_)
      | (with_reducible refine LeO.bind ?_ (fun _ => ?_))
      | exact ih0 _ _ _
      | exact skip_Next.mono _ _ _
      | exact skip_step.mono _ _ _
      | exact LeO.none _
      | refine LeO.ite ?_ ?_
      | refine LeO.bind ?_ (fun _ => ?_)
end Go.Proofs.YteamljekjncbfaaDoor.P
end
section
namespace Go.Proofs.YteamljekjncbfaaDoor.P
open Go.RowKit Go.Proofs.YteamljekjncbfaaDoorW.PrintWords Go.Proofs.YteamljekjncbfaaDoorW.PrintLast Go.Proofs.YteamljekjncbfaaDoorW.PrintMore
attribute [local go_sem] max2_int min2_int max_two min_two max_three min_three max_four min_four
set_option linter.unusedVariables false
set_option linter.unusedSimpArgs false
def slices_Equal_int_int.l0 : Nat → List Int → List Int → Int → Int → Option (Bool)
  | 0, _, _, _, _ => none
  | k + 1, x0, x1, x12, x13 => if x13 < x12 then (if 0 ≤ x13 then (if x13 < (x0.length : Int) then (if x13 < (x1.length : Int) then (if (rd x0 x13) = (rd x1 x13) then (slices_Equal_int_int.l0 k x0 x1 x12 (wrap64 (x13 + 1))) else (some false)) else (none)) else (none)) else (none)) else (some true)
def slices_Equal_int_int.f (k : Nat) (l0 : List Int) (l1 : List Int) : Option (Bool) := if (l0.length : Int) = (l1.length : Int) then (slices_Equal_int_int.l0 k l0 l1 (l0.length : Int) 0) else (some false)
theorem slices_Equal_int_int.mono_l : ∀ k, (∀ y0 y1 y2 y3, LeO (slices_Equal_int_int.l0 k y0 y1 y2 y3) (slices_Equal_int_int.l0 (k + 1) y0 y1 y2 y3))
  | 0 => fun _ _ _ _ r h => by simp [slices_Equal_int_int.l0] at h
  | k + 1 => by
    have ih0 := slices_Equal_int_int.mono_l k
    · intro y0 y1 y2 y3
      unfold slices_Equal_int_int.l0
      repeat' first
      | (with_reducible exact ih0 _ _ _ _)
      | (with_reducible exact LeO.refl _)
      | (with_reducible exact LeO.none _)
      | (with_reducible refine LeO.ite ?_ ?_)
      | (with_reducible refine LeO.bind ?_ (fun _ => ?_))
      | exact ih0 _ _ _ _
      | exact LeO.none _
      | refine LeO.ite ?_ ?_
      | refine LeO.bind ?_ (fun _ => ?_)
theorem slices_Equal_int_int.mono : ∀ a0 a1 k, LeO (slices_Equal_int_int.f k a0 a1) (slices_Equal_int_int.f (k + 1) a0 a1) := by
  intro a0 a1 k
  have ih0 := slices_Equal_int_int.mono_l k
  unfold slices_Equal_int_int.f
  repeat' first
      | (with_reducible exact ih0 _ _ _ _)
      | (with_reducible exact LeO.refl _)
      | (with_reducible exact LeO.none _)
      | (with_reducible refine LeO.ite ?_ ?_)
      | (with_reducible refine LeO.bind ?_ (fun _ => ?_))
      | exact ih0 _ _ _ _
      | exact LeO.none _
      | refine LeO.ite ?_ ?_
      | refine LeO.bind ?_ (fun _ => ?_)
end Go.Proofs.YteamljekjncbfaaDoor.P
end
section
namespace Go.Proofs.YteamljekjncbfaaDoor.P
open Go.RowKit Go.Proofs.YteamljekjncbfaaDoorW.PrintWords Go.Proofs.YteamljekjncbfaaDoorW.PrintLast Go.Proofs.YteamljekjncbfaaDoorW.PrintMore
attribute [local go_sem] max2_int min2_int max_two min_two max_three min_three max_four min_four
set_option linter.unusedVariables false
set_option linter.unusedSimpArgs false
def annalslaw14_awake.f (k : Nat)  : Option (Bool) := (skip_Way.f k 7 0).bind fun t240 => ((slices_Equal_int_int.f k t240 (([6, 4, 0] : List Int))).bind fun t246 => (if t246 = true then ((skip_Next.f k 6 0).bind fun t247 => (some (t247 == 4))) else (some false)))
theorem annalslaw14_awake.mono : ∀ k, LeO (annalslaw14_awake.f k ) (annalslaw14_awake.f (k + 1) ) := by
  intro  k
  unfold annalslaw14_awake.f
  repeat' first
      | (with_reducible exact skip_Next.mono _ _ _)
      | (with_reducible exact skip_Way.mono _ _ _)
      | (with_reducible exact slices_Equal_int_int.mono _ _ _)
      | (with_reducible exact LeO.refl _)
      | (with_reducible exact LeO.none _)
      | (with_reducible refine LeO.ite ?_ ?_)
      | (with_reducible refine LeO.bind ?_ (fun _ => ?_))
      | exact skip_Next.mono _ _ _
      | exact skip_Way.mono _ _ _
      | exact slices_Equal_int_int.mono _ _ _
      | exact LeO.none _
      | refine LeO.ite ?_ ?_
      | refine LeO.bind ?_ (fun _ => ?_)
end Go.Proofs.YteamljekjncbfaaDoor.P
end
section
namespace Go.Proofs.YteamljekjncbfaaDoor.P
open Go.RowKit Go.Proofs.YteamljekjncbfaaDoorW.PrintWords Go.Proofs.YteamljekjncbfaaDoorW.PrintLast Go.Proofs.YteamljekjncbfaaDoorW.PrintMore
attribute [local go_sem] max2_int min2_int max_two min_two max_three min_three max_four min_four
set_option linter.unusedVariables false
set_option linter.unusedSimpArgs false
def skip_Most.f (a0 : Int) : Option (Int) := (bits_Len.f (IntKind.u64.wrap (mx a0 0))).bind fun t608 => (some (wrap64 (2 * t608)))
end Go.Proofs.YteamljekjncbfaaDoor.P
end
section
namespace Go.Proofs.YteamljekjncbfaaDoor.P
open Go.RowKit Go.Proofs.YteamljekjncbfaaDoorW.PrintWords Go.Proofs.YteamljekjncbfaaDoorW.PrintLast Go.Proofs.YteamljekjncbfaaDoorW.PrintMore
attribute [local go_sem] max2_int min2_int max_two min_two max_three min_three max_four min_four
set_option linter.unusedVariables false
set_option linter.unusedSimpArgs false
def annalsref14_Most.l0 : Nat → Int → Int → Option (Int)
  | 0, _, _ => none
  | k + 1, x0, x3 => if x0 > 1 then (annalsref14_Most.l0 k (wrap64 (Int.tdiv x0 2)) (wrap64 (x3 + 2))) else (some x3)
def annalsref14_Most.f (k : Nat) (a0 : Int) : Option (Int) := if a0 < 1 then (some 0) else (annalsref14_Most.l0 k a0 2)
theorem annalsref14_Most.mono_l : ∀ k, (∀ y0 y1, LeO (annalsref14_Most.l0 k y0 y1) (annalsref14_Most.l0 (k + 1) y0 y1))
  | 0 => fun _ _ r h => by simp [annalsref14_Most.l0] at h
  | k + 1 => by
    have ih0 := annalsref14_Most.mono_l k
    · intro y0 y1
      unfold annalsref14_Most.l0
      repeat' first
      | (with_reducible exact ih0 _ _)
      | (with_reducible exact LeO.refl _)
      | (with_reducible exact LeO.none _)
      | (with_reducible refine LeO.ite ?_ ?_)
      | (with_reducible refine LeO.bind ?_ (fun _ => ?_))
      | exact ih0 _ _
      | exact LeO.none _
      | refine LeO.ite ?_ ?_
      | refine LeO.bind ?_ (fun _ => ?_)
theorem annalsref14_Most.mono : ∀ a0 k, LeO (annalsref14_Most.f k a0) (annalsref14_Most.f (k + 1) a0) := by
  intro a0 k
  have ih0 := annalsref14_Most.mono_l k
  unfold annalsref14_Most.f
  repeat' first
      | (with_reducible exact ih0 _ _)
      | (with_reducible exact LeO.refl _)
      | (with_reducible exact LeO.none _)
      | (with_reducible refine LeO.ite ?_ ?_)
      | (with_reducible refine LeO.bind ?_ (fun _ => ?_))
      | exact ih0 _ _
      | exact LeO.none _
      | refine LeO.ite ?_ ?_
      | refine LeO.bind ?_ (fun _ => ?_)
end Go.Proofs.YteamljekjncbfaaDoor.P
end
section
namespace Go.Proofs.YteamljekjncbfaaDoor.P
open Go.RowKit Go.Proofs.YteamljekjncbfaaDoorW.PrintWords Go.Proofs.YteamljekjncbfaaDoorW.PrintLast Go.Proofs.YteamljekjncbfaaDoorW.PrintMore
attribute [local go_sem] max2_int min2_int max_two min_two max_three min_three max_four min_four
set_option linter.unusedVariables false
set_option linter.unusedSimpArgs false
def skip_Links.l0 : Nat → Int → List Int → Int → Int → Option (List Int)
  | 0, _, _, _, _ => none
  | k + 1, x0, x3, x10, x11 => if x11 < x10 then (if 0 ≤ x11 then (if x3.length < 17592186044416 then (skip_Links.l0 k x0 (x3 ++ [wrap64 (x0 - (shl .i64 1 x11))]) x10 (wrap64 (x11 + 1))) else (none)) else (none)) else (some x3)
def skip_Links.f (k : Nat) (a0 : Int) : Option (List Int) := if a0 > 0 then ((bits_TrailingZeros.f (IntKind.u64.wrap (a0))).bind fun t604 => (skip_Links.l0 k a0 ([] : List Int) (wrap64 (t604 + 1)) 0)) else (some ([] : List Int))
theorem skip_Links.mono_l : ∀ k, (∀ y0 y1 y2 y3, LeO (skip_Links.l0 k y0 y1 y2 y3) (skip_Links.l0 (k + 1) y0 y1 y2 y3))
  | 0 => fun _ _ _ _ r h => by simp [skip_Links.l0] at h
  | k + 1 => by
    have ih0 := skip_Links.mono_l k
    · intro y0 y1 y2 y3
      unfold skip_Links.l0
      repeat' first
      | (with_reducible exact ih0 _ _ _ _)
      | (with_reducible exact LeO.refl _)
      | (with_reducible exact LeO.none _)
      | (with_reducible refine LeO.ite ?_ ?_)
      | (with_reducible refine LeO.bind ?_ (fun _ => ?_))
      | exact ih0 _ _ _ _
      | exact LeO.none _
      | refine LeO.ite ?_ ?_
      | refine LeO.bind ?_ (fun _ => ?_)
theorem skip_Links.mono : ∀ a0 k, LeO (skip_Links.f k a0) (skip_Links.f (k + 1) a0) := by
  intro a0 k
  have ih0 := skip_Links.mono_l k
  unfold skip_Links.f
  repeat' first
      | (with_reducible exact ih0 _ _ _ _)
      | (with_reducible exact LeO.refl _)
      | (with_reducible exact LeO.none _)
      | (with_reducible refine LeO.ite ?_ ?_)
      | (with_reducible refine LeO.bind ?_ (fun _ => ?_))
      | exact ih0 _ _ _ _
      | exact LeO.none _
      | refine LeO.ite ?_ ?_
      | refine LeO.bind ?_ (fun _ => ?_)
end Go.Proofs.YteamljekjncbfaaDoor.P
end
section
namespace Go.Proofs.YteamljekjncbfaaDoor.P
open Go.RowKit Go.Proofs.YteamljekjncbfaaDoorW.PrintWords Go.Proofs.YteamljekjncbfaaDoorW.PrintLast Go.Proofs.YteamljekjncbfaaDoorW.PrintMore
attribute [local go_sem] max2_int min2_int max_two min_two max_three min_three max_four min_four
set_option linter.unusedVariables false
set_option linter.unusedSimpArgs false
def annalsref14_Links.l0 : Nat → Int → List Int → Int → Option (List Int)
  | 0, _, _, _ => none
  | k + 1, x0, x3, x4 => if x4 > 0 then (if x4 ≤ x0 then (if x4 = 0 then (none) else (if (Int.tmod x0 x4) = 0 then (if x3.length < 17592186044416 then (annalsref14_Links.l0 k x0 (x3 ++ [wrap64 (x0 - x4)]) (wrap64 (2 * x4))) else (none)) else (some x3))) else (some x3)) else (some x3)
def annalsref14_Links.f (k : Nat) (a0 : Int) : Option (List Int) := annalsref14_Links.l0 k a0 ([] : List Int) 1
theorem annalsref14_Links.mono_l : ∀ k, (∀ y0 y1 y2, LeO (annalsref14_Links.l0 k y0 y1 y2) (annalsref14_Links.l0 (k + 1) y0 y1 y2))
  | 0 => fun _ _ _ r h => by simp [annalsref14_Links.l0] at h
  | k + 1 => by
    have ih0 := annalsref14_Links.mono_l k
    · intro y0 y1 y2
      unfold annalsref14_Links.l0
      repeat' first
      | (with_reducible exact ih0 _ _ _)
      | (with_reducible exact LeO.refl _)
      | (with_reducible exact LeO.none _)
      | (with_reducible refine LeO.ite ?_ ?_)
      | (with_reducible refine LeO.bind ?_ (fun _ => ?_))
      | exact ih0 _ _ _
      | exact LeO.none _
      | refine LeO.ite ?_ ?_
      | refine LeO.bind ?_ (fun _ => ?_)
theorem annalsref14_Links.mono : ∀ a0 k, LeO (annalsref14_Links.f k a0) (annalsref14_Links.f (k + 1) a0) := by
  intro a0 k
  have ih0 := annalsref14_Links.mono_l k
  unfold annalsref14_Links.f
  repeat' first
      | (with_reducible exact ih0 _ _ _)
      | (with_reducible exact LeO.refl _)
      | (with_reducible exact LeO.none _)
      | (with_reducible refine LeO.ite ?_ ?_)
      | (with_reducible refine LeO.bind ?_ (fun _ => ?_))
      | exact ih0 _ _ _
      | exact LeO.none _
      | refine LeO.ite ?_ ?_
      | refine LeO.bind ?_ (fun _ => ?_)
end Go.Proofs.YteamljekjncbfaaDoor.P
end
section
namespace Go.Proofs.YteamljekjncbfaaDoor.P
open Go.RowKit Go.Proofs.YteamljekjncbfaaDoorW.PrintWords Go.Proofs.YteamljekjncbfaaDoorW.PrintLast Go.Proofs.YteamljekjncbfaaDoorW.PrintMore
attribute [local go_sem] max2_int min2_int max_two min_two max_three min_three max_four min_four
set_option linter.unusedVariables false
set_option linter.unusedSimpArgs false
def annalsref14_Next.l0 : Nat → Int → Int → List Int → Int → Int → Option (Int)
  | 0, _, _, _, _, _ => none
  | k + 1, x1, x5, x13, x14, x15 => if x15 < x14 then (if 0 ≤ x15 then (if x15 < (x13.length : Int) then (if (rd x13 x15) ≥ x1 then (annalsref14_Next.l0 k x1 (rd x13 x15) x13 x14 (wrap64 (x15 + 1))) else (annalsref14_Next.l0 k x1 x5 x13 x14 (wrap64 (x15 + 1)))) else (none)) else (none)) else (some x5)
def annalsref14_Next.f (k : Nat) (a0 : Int) (a1 : Int) : Option (Int) := if a1 < 0 then (some a0) else ((annalsref14_Links.f k a0).bind fun t349 => (annalsref14_Next.l0 k a1 a0 t349 (t349.length : Int) 0))
theorem annalsref14_Next.mono_l : ∀ k, (∀ y0 y1 y2 y3 y4, LeO (annalsref14_Next.l0 k y0 y1 y2 y3 y4) (annalsref14_Next.l0 (k + 1) y0 y1 y2 y3 y4))
  | 0 => fun _ _ _ _ _ r h => by simp [annalsref14_Next.l0] at h
  | k + 1 => by
    have ih0 := annalsref14_Next.mono_l k
    · intro y0 y1 y2 y3 y4
      unfold annalsref14_Next.l0
      repeat' first
      | (with_reducible exact ih0 _ _ _ _ _)
      | (with_reducible exact annalsref14_Links.mono _ _)
      | (with_reducible exact LeO.refl _)
      | (with_reducible exact LeO.none _)
      | (with_reducible refine LeO.ite ?_ ?_)
      | (with_reducible refine LeO.bind ?_ (fun _ => ?_))
      | exact ih0 _ _ _ _ _
      | exact annalsref14_Links.mono _ _
      | exact LeO.none _
      | refine LeO.ite ?_ ?_
      | refine LeO.bind ?_ (fun _ => ?_)
theorem annalsref14_Next.mono : ∀ a0 a1 k, LeO (annalsref14_Next.f k a0 a1) (annalsref14_Next.f (k + 1) a0 a1) := by
  intro a0 a1 k
  have ih0 := annalsref14_Next.mono_l k
  unfold annalsref14_Next.f
  repeat' first
      | (with_reducible exact ih0 _ _ _ _ _)
      | (with_reducible exact annalsref14_Links.mono _ _)
      | (with_reducible exact LeO.refl _)
      | (with_reducible exact LeO.none _)
      | (with_reducible refine LeO.ite ?_ ?_)
      | (with_reducible refine LeO.bind ?_ (fun _ => ?_))
      | exact ih0 _ _ _ _ _
      | exact annalsref14_Links.mono _ _
      | exact LeO.none _
      | refine LeO.ite ?_ ?_
      | refine LeO.bind ?_ (fun _ => ?_)
end Go.Proofs.YteamljekjncbfaaDoor.P
end
section
namespace Go.Proofs.YteamljekjncbfaaDoor.P
open Go.RowKit Go.Proofs.YteamljekjncbfaaDoorW.PrintWords Go.Proofs.YteamljekjncbfaaDoorW.PrintLast Go.Proofs.YteamljekjncbfaaDoorW.PrintMore
attribute [local go_sem] max2_int min2_int max_two min_two max_three min_three max_four min_four
set_option linter.unusedVariables false
set_option linter.unusedSimpArgs false
mutual
def annalsref14_Way.j0 : Nat → Int → Int → Bool → Option (List Int)
  | 0, _, _, _ => none
  | k + 1, x0, x1, x16 => if x16 = true then (some ([] : List Int)) else (annalsref14_Way.l0 k x0 x1 ([] : List Int))
def annalsref14_Way.l0 : Nat → Int → Int → List Int → Option (List Int)
  | 0, _, _, _ => none
  | k + 1, x0, x1, x5 => if x0 > x1 then ((annalsref14_Next.f k x0 x1).bind fun t353 => (if x5.length < 17592186044416 then (annalsref14_Way.l0 k t353 x1 (x5 ++ [t353])) else (none))) else (some x5)
end
def annalsref14_Way.f (k : Nat) (a0 : Int) (a1 : Int) : Option (List Int) := if a1 < 0 then (annalsref14_Way.j0 k a0 a1 true) else (if a1 ≥ a0 then (annalsref14_Way.j0 k a0 a1 true) else (annalsref14_Way.j0 k a0 a1 (decide (a0 > 1048576))))
theorem annalsref14_Way.mono_l : ∀ k, (∀ y0 y1 y2, LeO (annalsref14_Way.j0 k y0 y1 y2) (annalsref14_Way.j0 (k + 1) y0 y1 y2)) ∧ (∀ y0 y1 y2, LeO (annalsref14_Way.l0 k y0 y1 y2) (annalsref14_Way.l0 (k + 1) y0 y1 y2))
  | 0 => ⟨fun _ _ _ r h => by simp [annalsref14_Way.j0] at h, fun _ _ _ r h => by simp [annalsref14_Way.l0] at h⟩
  | k + 1 => by
    obtain ⟨ih0, ih1⟩ := annalsref14_Way.mono_l k
    refine ⟨?_, ?_⟩
    · intro y0 y1 y2
      unfold annalsref14_Way.j0
      repeat' first
      | (with_reducible exact ih0 _ _ _)
      | (with_reducible exact ih1 _ _ _)
      | (with_reducible exact annalsref14_Next.mono _ _ _)
      | (with_reducible exact LeO.refl _)
      | (with_reducible exact LeO.none _)
      | (with_reducible refine LeO.ite ?_ ?_)
      | (with_reducible refine LeO.bind ?_ (fun _ => ?_))
      | exact ih0 _ _ _
      | exact ih1 _ _ _
      | exact annalsref14_Next.mono _ _ _
      | exact LeO.none _
      | refine LeO.ite ?_ ?_
      | refine LeO.bind ?_ (fun _ => ?_)
    · intro y0 y1 y2
      unfold annalsref14_Way.l0
      repeat' first
      | (with_reducible exact ih0 _ _ _)
      | (with_reducible exact ih1 _ _ _)
      | (with_reducible exact annalsref14_Next.mono _ _ _)
      | (with_reducible exact LeO.refl _)
      | (with_reducible exact LeO.none _)
      | (with_reducible refine LeO.ite ?_ ?_)
      | (with_reducible refine LeO.bind ?_ (fun _ => ?_))
      | exact ih0 _ _ _
      | exact ih1 _ _ _
      | exact annalsref14_Next.mono _ _ _
      | exact LeO.none _
      | refine LeO.ite ?_ ?_
      | refine LeO.bind ?_ (fun _ => ?_)
theorem annalsref14_Way.mono : ∀ a0 a1 k, LeO (annalsref14_Way.f k a0 a1) (annalsref14_Way.f (k + 1) a0 a1) := by
  intro a0 a1 k
  obtain ⟨ih0, ih1⟩ := annalsref14_Way.mono_l k
  unfold annalsref14_Way.f
  repeat' first
      | (with_reducible exact ih0 _ _ _)
      | (with_reducible exact ih1 _ _ _)
      | (with_reducible exact annalsref14_Next.mono _ _ _)
      | (with_reducible exact LeO.refl _)
      | (with_reducible exact LeO.none _)
      | (with_reducible refine LeO.ite ?_ ?_)
      | (with_reducible refine LeO.bind ?_ (fun _ => ?_))
      | exact ih0 _ _ _
      | exact ih1 _ _ _
      | exact annalsref14_Next.mono _ _ _
      | exact LeO.none _
      | refine LeO.ite ?_ ?_
      | refine LeO.bind ?_ (fun _ => ?_)
end Go.Proofs.YteamljekjncbfaaDoor.P
end
