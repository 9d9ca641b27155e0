/- Lemmas of this claim, part 16. -/
import Derived.Test.YtdeneoknjeegbaaDoorPartPtreeErrs15
import Derived.Test.YtdeneoknjeegbaaDoorPartPtreeErrs9
import Derived.Lib.SlBytesConst
import Derived.Test.YtdeneoknjeegbaaDoorPartPtreeErrs1
import Derived.ChangeArms
import Derived.SizedLaws
import Derived.Test.YtdeneoknjeegbaaDoorPartPtreeErrs4
import Derived.WideShapes
import Derived.ChangeSlices
set_option linter.unusedVariables false
set_option linter.unusedSimpArgs false
section
namespace Go.Proofs.YtdeneoknjeegbaaDoor.P
open Go Go.RowKit YtdeneoknjeegbaaDoor.Pure YtdeneoknjeegbaaDoorW.PrintWords YtdeneoknjeegbaaDoorW.PrintLast YtdeneoknjeegbaaDoorW.PrintMore
theorem ArenaM.start {w w1 : World} {size room : Int} (hb : ¬ newBad size room) (ha : ABlk w1 w.heap.size size room (.slice none 0 0) (.slice none 0 0)) (h1 : Below w.heap.size w w1) (X : Nat -> Prop) (hX : ∀ k, X k -> k < w1.heap.size /\ k ≠ w.heap.size) :
    ArenaM w1 w.heap.size w.heap.size size room (.slice none 0 0) (.slice none 0 0) X [] := by
  have hs : 1 <= size /\ size <= 32 := ⟨by by_cases h : size < 1; exact absurd (.inl h) hb; omega, by by_cases h : 32 < size; exact absurd (.inr (.inl h)) hb; omega⟩
  have hm : 1 <= room /\ room <= 4194304 := ⟨by by_cases h : room < 1; exact absurd (.inr (.inr (.inl h))) hb; omega, by by_cases h : 4194304 < room; exact absurd (.inr (.inr (.inr h))) hb; omega⟩
  refine ⟨⟨[], [], ⟨ha, Kd.R_nil _ _ _ _ _, Kd.R_nil _ _ _ _ _, ?_, FreeOk.nil, rfl, fun i o r h => by simp at h, fun k hk => ⟨(hX k hk).1, ?_⟩⟩⟩, Nat.le_refl _, hs, hm, by simp; omega⟩
  · intro k hk h0
    exact absurd h0 (by simp)
  · rintro (h | h | h)
    · exact (hX k hk).2 h
    · simp [Value.ownBlock] at h
    · simp [Value.ownBlock] at h
theorem TreeIn.none (size : Int) {cs : Cs} {root : Int} (h : nodeAt cs root = none) (hg : CsG cs) : TreeIn size cs root none := ⟨h, trivial, hg⟩
theorem nodeAt_nil (i : Int) : nodeAt [] i = none := by
  unfold nodeAt
  split <;> simp
theorem find_leaf {size : Int} {cs : Cs} {t : PT} {i : Int} (ht : IsT cs i t) (hg : Good size t) {x : Lf} (hx : x ∈ t.leaves) (hu : ∀ y ∈ t.leaves, y.id = x.id -> y = x) : (findT (keyB x.id) x.id i t).item = ⟨x.id, x.key, x.since, true⟩ := by
  have hid := (hg.leaf_ok x hx).1
  obtain ⟨S, A, B, e1, e2, e3, e4, e5, e6, _⟩ := ins_down hid t i ht hg
  have hxs : x ∈ S.leaves := by
    rw [e5] at hx
    rcases List.mem_append.1 hx with h | h
    · rcases List.mem_append.1 h with h | h
      · exact absurd rfl (e6 x (List.mem_append_left _ h))
      · exact h
    · exact absurd rfl (e6 x (List.mem_append_right _ h))
  rcases e4 with ⟨n, rfl, hs⟩ | ⟨n, l, r, rfl, hs, hb⟩
  · obtain rfl : x = lfOf n := by simpa [PT.leaves] using hxs
    have hn : (findT (keyB (lfOf n).id) (lfOf n).id i t).node = n := e3.symm
    unfold Spot.item
    rw [hs, decide_eq_true (show n.f1 = (lfOf n).id from rfl), hn]
    rfl
  · exfalso
    obtain ⟨d, hd, hat⟩ := e2.fork_at
    obtain ⟨b, ha, _⟩ := hat x hxs
    rw [hd] at hb
    have := (begins_at ha (keyB_bytes hid) (keyB_bytes hid)).2 (fun _ _ => rfl)
    rw [this] at hb
    cases hb
theorem first_in {size room : Int} (hs : 1 <= size /\ size <= 32) (hr : 1 <= room) {id key : List Int} {since : Int} (ho : BytesOk id) (hk : BytesOk key) (hb : ¬ badIns id key since) :
    ¬ room - (usedN [] : Int) < ((findO (keyB id) id (-1) none).needs : Int) /\ (insAll size (keyB id) id key since (findO (keyB id) id (-1) none) []) = ([some (leafNd size id key since)], 0) := by
  have hn : (findO (keyB id) id (-1) none).needs = 1 := by
    show Spot.needs ⟨[], -1, z39, false⟩ = 1
    unfold Spot.needs
    rw [if_neg (fun h => h.1 rfl)]
    rfl
  rw [hn]
  refine ⟨by show ¬ room - ((0 : Nat) : Int) < ((1 : Nat) : Int); omega, ?_⟩
  show insAll size (keyB id) id key since ⟨[], -1, z39, false⟩ [] = _
  unfold insAll insStart
  rw [if_neg (fun h => h.1 rfl)]
  rfl
theorem no_bad (cs : Cs) {id key : List Int} {since : Int} (h : ¬ badIns id key since) : ¬ (badRoot cs (-1) \/ badIns id key since) := fun h1 => h1.elim (fun h2 => h2.1 rfl) h
theorem leaf_tree {size : Int} (hs : 1 <= size /\ size <= 32) {id key : List Int} {since : Int} (ho : BytesOk id) (hk : BytesOk key) (hb : ¬ badIns id key since) : TreeIn size [some (leafNd size id key since)] 0 (some (.leaf (leafNd size id key since))) :=
  ⟨⟨rfl, rfl⟩, Good.leafOf (not_badIns hb ho hk), by
    unfold badIns at hb
    exact CsG.nil.put (leafNd_g hs id key since ho (by omega) (by omega))⟩
theorem lit_Cx {w : World} {g : Nat} {x : Int} {q : Nat × Nat} (h : w.heap[g]? = some (.cells #[.int .u8 x] 5 q)) : Kd.C (Kd.int .u8) w (some ⟨g, 0, none⟩) 1 [x] := by
  refine Kd.C_of_reads (h1 := fun _ => rfl) (d := 0) ⟨rfl, by decide, fun _ => ⟨_, rfl, fun j hj => ?_⟩⟩
  obtain rfl : j = 0 := by omega
  simp [World.cell?, Addr.add, h]
theorem bytes1 (x : Int) (h : 0 <= x /\ x <= 255) : BytesOk [x] := fun y hy => by obtain rfl : y = x := (by simpa using hy); exact h
set_option maxHeartbeats 8000000 in
set_option maxRecDepth 100000 in
theorem awake10_calls (w : World) (hGS : GlobS w) : Calls Tryd.prog 25 #[] w fun e w' => e = .returned (.bool true) /\ Below w.heap.size w w' := by
  have HGS := z_ hGS
  have HNB := z_ (show ¬ newBad 4 9 from by unfold newBad; omega)
  have HBI := z_ (show ¬ badIns [97] [107] 1 from by unfold badIns; simp)
  clear hGS
  have kc := fun (w : World) (C : Array Value) (n c : Nat) => Lib.run_convert_bytes_const (P := Tryd.prog) w 31 5 C n c Tryd.underlying31 Tryd.underlying5
  have kc2 := fun (W : World) (o : Obj) (C : Array Value) (n c : Nat) => (by have h := kc (W.alloc o) C n c; rw [World.size_alloc] at h; exact h : (convert 31 31 (.slice (some ⟨W.heap.size + 1, 0, none⟩) n c)).run Tryd.prog ((W.alloc o).alloc (.cells C 5)) = .ok (.slice (some ⟨W.heap.size + 1, 0, none⟩) n c) ((W.alloc o).alloc (.cells C 5 (C.size, C.size + 1))))
  go_enter Tryd.func25, Tryd.ntmps25
  go_wp2_with fail
  refine (new_calls 4 9 w (by omega) (by omega) (by omega) (by omega)).mono ?_
  rintro e w1 ⟨rfl, hA, hb1⟩
  have HA := z_ hA
  have HB1 := z_ hb1
  clear hA hb1
  obtain ⟨w2, hw2⟩ : ∃ w2, w2 = w1.alloc (.cells #[.int .u8 97] 5 (1, 2)) := ⟨_, rfl⟩
  have HB2 := z_ (show Below w1.heap.size w1 w2 from by rw [hw2]; exact below_alloc (Below.refl _ _) _)
  have HZ2 := z_ (show w2.heap.size = w1.heap.size + 1 from by rw [hw2]; simp)
  have HI2 := z_ (show w2.heap[w1.heap.size]? = some (.cells #[.int .u8 97] 5 (1, 2)) from by rw [hw2]; exact heap_alloc_new w1 _)
  obtain ⟨w3, hw3⟩ : ∃ w3, w3 = w2.alloc (.cells #[.int .u8 107] 5 (1, 2)) := ⟨_, rfl⟩
  have HB3 := z_ (show Below w2.heap.size w2 w3 from by rw [hw3]; exact below_alloc (Below.refl _ _) _)
  have HS2 := z_ (show w2.heap.size = w1.heap.size + 1 /\ w3.heap.size = w2.heap.size + 1 from ⟨HZ2.out, by rw [hw3]; simp⟩)
  have HI3 := z_ (show w3.heap[w2.heap.size]? = some (.cells #[.int .u8 107] 5 (1, 2)) from by rw [hw3]; exact heap_alloc_new w2 _)
  have HV1 := z_ (show BX w3 (fun k => w1.heap.size <= k /\ k < w3.heap.size) (.slice (some ⟨w1.heap.size, 0, none⟩) ([97] : List Int).length 1) [97] from Kd.V_mk (Nat.le_refl _) (fun W' hW' => lit_Cx ((hW' w1.heap.size ⟨Nat.le_refl _, by have := HS2.out; omega⟩ (by have := HS2.out; omega)).trans (blk_below HI2.out HB3.out))))
  have HV2 := z_ (show BX w3 (fun k => w1.heap.size <= k /\ k < w3.heap.size) (.slice (some ⟨w2.heap.size, 0, none⟩) ([107] : List Int).length 1) [107] from Kd.V_mk (Nat.le_refl _) (fun W' hW' => lit_Cx ((hW' w2.heap.size ⟨by have := HS2.out; omega, by have := HS2.out; omega⟩ (by have := HS2.out; omega)).trans HI3.out)))
  have HBW := z_ (show Below w.heap.size w w3 from HB1.out.trans ((below_step HB2.out HB3.out).mono HB1.out.size))
  have HM3 := z_ (show ArenaM w3 w.heap.size w.heap.size 4 9 (.slice none 0 0) (.slice none 0 0) (fun k => w1.heap.size <= k /\ k < w3.heap.size) [] from ArenaM.start HNB.out (HA.out.below (below_step HB2.out HB3.out)) HBW.out _ (fun k hk => ⟨hk.2, by have := HA.out.lt; omega⟩))
  have HP3 := z_ (show InsPre w3 w.heap.size w.heap.size 4 9 (.slice none 0 0) (.slice none 0 0) (fun k => w1.heap.size <= k /\ k < w3.heap.size) [] (some ⟨w1.heap.size, 0, none⟩) (some ⟨w2.heap.size, 0, none⟩) 1 1 [97] [107] from
    ⟨HM3.out, CsOk.nil, (fun n h => by cases h), HV1.out, HV2.out, bytes1 97 (by omega), bytes1 107 (by omega), by decide, by decide, fun W hW => GlobS.of HGS.out (HBW.out.trans hW)⟩)
  have HEQ := z_ (And.intro hw2 hw3)
  clear hw2 hw3
  go_wp2_with fail
  rw [<- HEQ.out.1, <- HEQ.out.2, show w1.heap.size + 1 = w2.heap.size from HS2.out.1.symm]
  clear HEQ
  refine (insert_calls HP3.out (-1) 1 none (TreeIn.none 4 (nodeAt_nil _) CsG.nil)).mono ?_
  rintro e w4 ⟨i, er, cs', hout, rfl, hA4⟩
  obtain ⟨lf, hlf⟩ : ∃ lf, lf = leafNd 4 [97] [107] 1 := ⟨_, rfl⟩
  have hfi := first_in (size := 4) (room := 9) (by omega) (by omega) (bytes1 97 (by omega)) (bytes1 107 (by omega)) HBI.out
  rw [<- hlf] at hfi
  obtain ⟨rfl, rfl, rfl⟩ : i = 0 /\ er = 0 /\ cs' = [some lf] := by
    rcases hout with ⟨h1, _⟩ | ⟨_, h1, _⟩ | ⟨_, _, h1, h2, h3⟩
    · exact absurd h1 (no_bad _ HBI.out)
    · exact absurd h1 hfi.1
    · rw [hfi.2] at h1 h3
      exact ⟨h1, h2, h3⟩
  obtain ⟨vc', vf', X', hM, _, _, _, hb4⟩ := hA4
  have HM4 := z_ hM
  have HT4 := z_ (show TreeIn 4 [some lf] 0 (some (.leaf lf)) from by rw [hlf]; exact leaf_tree (by omega) (bytes1 97 (by omega)) (bytes1 107 (by omega)) HBI.out)
  have HB4 := z_ (HBW.out.trans hb4)
  have HIT := z_ (show (findO (keyB [97]) [97] 0 (some (.leaf lf))).item = ⟨[97], [107], 1, true⟩ from find_leaf (x := ⟨[97], [107], 1⟩) HT4.out.at_ HT4.out.good (by rw [hlf]; exact List.mem_singleton.2 rfl) (fun y hy _ => by rw [hlf] at hy; exact List.mem_singleton.1 hy))
  clear hout hM hb4 hfi hlf
  obtain ⟨w5, hw5⟩ : ∃ w5, w5 = w4.alloc (.cells #[.int .u8 97] 5 (1, 2)) := ⟨_, rfl⟩
  have HB5 := z_ (show Below w4.heap.size w4 w5 from by rw [hw5]; exact below_alloc (Below.refl _ _) _)
  have HC5 := z_ (show Kd.C (Kd.int .u8) w5 (some ⟨w4.heap.size, 0, none⟩) ([97] : List Int).length [97] from lit_Cx (show w5.heap[w4.heap.size]? = some (.cells #[.int .u8 97] 5 (1, 2)) from by rw [hw5]; exact heap_alloc_new w4 _))
  have HEQ := z_ hw5
  clear hw5
  go_wp2_with fail
  rw [<- HEQ.out]
  clear HEQ
  refine (get_calls (HM4.out.below HB5.out) 0 (some (.leaf lf)) HT4.out (some ⟨w4.heap.size, 0, none⟩) 1 [97] HC5.out (by decide) (bytes1 97 (by omega))).mono ?_
  rintro e w6 ⟨hI, hb⟩
  rw [HIT.out] at hI
  obtain ⟨A1, A2, c1, c2, rfl, x1, x2⟩ := hI
  have HX6 := z_ x2
  have HB6 := z_ (below_step HB5.out hb)
  clear x1 x2 hb
  have v1 := Kd.C_string (P := Tryd.prog) (A := A2) (c := c2) Tryd.underlying31 Tryd.underlying5 Tryd.underlying9 (Kd.C_below (Kd.V_reads' HX6.out).2.2 (below_alloc (Below.refl w6.heap.size w6) (.cells #[.slice A1 ([97] : List Int).length c1, .slice A2 ([107] : List Int).length c2, .int .i64 1] 51)))
  simp only [List.length_cons, List.length_nil, Nat.zero_add] at v1
  have hso : (strOfNums [107]).toList = (⟨#[107]⟩ : ByteArray).toList := by
    rw [ByteArray.toList_eq, ByteArray.toList_eq, strOfNums_data]
    rfl
  have hse : ((strOfNums [107]).toList == (⟨#[107]⟩ : ByteArray).toList) = true := by rw [hso]; simp
  have hse3 : ((strOfNums [107]).toList = (⟨#[107]⟩ : ByteArray).toList) = True := eq_true hso
  go_wp2_with fail
  clear v1 hso hse hse3 kc kc2
  refine (deep_calls (HM4.out.below (below_alloc HB6.out _)) 0 (some (.leaf lf)) HT4.out).mono ?_
  rintro e w8 ⟨rfl, hb⟩
  have HB8 := z_ (HB4.out.trans ((below_step (below_alloc HB6.out _) hb).mono HB4.out.size))
  clear hb
  rw [show ((heightO (some (.leaf lf)) : Nat) : Int) = 0 from rfl]
  go_wp2_with fail
  go_ret
  exact ⟨rfl, HB8.out⟩
theorem errs_out {root : Int} {id key : List Int} {since : Int} (ho : BytesOk id) (hk : BytesOk key) {i er : Int} {cs' : Cs} (h : InsOut [] 4 9 root id key since none i er cs') :
    TreeIn 4 cs' root none /\ nodeAt cs' 5 = none /\ (er = 0 -> root ≠ i) := by
  rcases h with ⟨_, rfl, rfl, rfl⟩ | ⟨h0, h1, _⟩ | ⟨h0, _, h1, rfl, h3⟩
  · exact ⟨TreeIn.none 4 (nodeAt_nil _) CsG.nil, nodeAt_nil _, fun h => by omega⟩
  · exfalso
    have hb : ¬ badIns id key since := fun h => h0 (.inr h)
    have hr : root = -1 := Classical.byContradiction fun h => h0 (.inl ⟨h, nodeAt_nil _⟩)
    subst hr
    exact (first_in (size := 4) (room := 9) (by omega) (by omega) ho hk hb).1 h1
  · have hb : ¬ badIns id key since := fun h => h0 (.inr h)
    have hr : root = -1 := Classical.byContradiction fun h => h0 (.inl ⟨h, nodeAt_nil _⟩)
    subst hr
    rw [(first_in (size := 4) (room := 9) (by omega) (by omega) ho hk hb).2] at h1 h3
    subst h1
    subst h3
    have hg := (leaf_tree (size := 4) (by omega) ho hk hb).g
    exact ⟨TreeIn.none 4 (nodeAt_neg _ _ (by omega)) hg, rfl, fun _ => by simp⟩
set_option maxHeartbeats 8000000 in
set_option maxRecDepth 100000 in
theorem ptreeErrs_true (root : Int) (A1 : Option Addr) (c1 : Nat) (id : List Int) (A2 : Option Addr) (c2 : Nat) (key : List Int) (since : Int) (w : World) (h1 : Kd.C (Kd.int .u8) w A1 id.length id) (hc1 : id.length <= c1) (o1 : BytesOk id) (h2 : Kd.C (Kd.int .u8) w A2 key.length key) (hc2 : key.length <= c2) (o2 : BytesOk key) (hGS : GlobS w) :
    Calls Tryd.prog 5 #[.int .i64 root, .slice A1 id.length c1, .slice A2 key.length c2, .int .i64 since] w fun e w' => e = .returned (.bool true) /\ Below w.heap.size w w' := by
  have HGS := z_ hGS
  have HV1 := z_ (V_of_C 5 h1 hc1)
  have HV2 := z_ (V_of_C 5 h2 hc2)
  have HO := z_ (And.intro o1 o2)
  have HLN := z_ (show id.length <= 9223372036854775807 /\ key.length <= 9223372036854775807 from ⟨h1.2.1, h2.2.1⟩)
  have HNB := z_ (show ¬ newBad 4 9 from by unfold newBad; omega)
  clear hGS h1 hc1 o1 h2 hc2 o2
  go_enter Tryd.func5, Tryd.ntmps5
  go_wp2_with fail
  refine (new_calls 4 9 w (by omega) (by omega) (by omega) (by omega)).mono ?_
  rintro e w1 ⟨rfl, hA, hb1⟩
  have HA := z_ hA
  have HB1 := z_ hb1
  clear hA hb1
  go_wp2_with fail
  refine (rnew_calls 4 9 w1 HNB.out).mono ?_
  rintro e w2 ⟨rfl, hQ, hb2⟩
  have HP := z_ (Pr.start HNB.out HA.out HB1.out hQ hb2)
  have HB2 := z_ (show Below w.heap.size w w2 from HB1.out.trans (hb2.mono HB1.out.size))
  clear hQ hb2 HA
  obtain ⟨p, hp⟩ : ∃ p, p = w.heap.size := ⟨_, rfl⟩
  obtain ⟨q, hq⟩ : ∃ q, q = w1.heap.size := ⟨_, rfl⟩
  obtain ⟨base, hbase⟩ : ∃ b, b = w.heap.size := ⟨_, rfl⟩
  replace HP := z_ (show Pr w2 base p q 4 9 (.slice none 0 0) (.slice none 0 0) (.slice none 0 0) (fun k => k < base) [] [] from by rw [hp, hq, hbase]; exact HP.out)
  rw [<- hp, <- hq]
  have HBE := z_ hbase
  clear hp hq hbase
  have HVA := z_ (show BX w2 (fun k => k < base) (.slice A1 id.length c1) id /\ BX w2 (fun k => k < base) (.slice A2 key.length c2) key from by rw [HBE.out]; exact ⟨Kd.V_below HV1.out HB2.out, Kd.V_below HV2.out HB2.out⟩)
  have HG := z_ (show ∀ W, Below base w2 W -> GlobS W from fun W hW => by
    rw [HBE.out] at hW
    exact GlobS.of HGS.out (HB2.out.trans hW))
  have HPI := z_ (show InsPre w2 base p 4 9 (.slice none 0 0) (.slice none 0 0) (fun k => k < base) [] A1 A2 c1 c2 id key from
    ⟨HP.out.a, CsOk.nil, (fun n h => by cases h), HVA.out.1, HVA.out.2, HO.out.1, HO.out.2, HLN.out.1, HLN.out.2, HG.out⟩)
  go_wp2_with fail
  refine (insert_calls HPI.out root since none (TreeIn.none 4 (nodeAt_nil _) CsG.nil)).mono ?_
  rintro e w3 ⟨i, er, cs', hout, rfl, hA3⟩
  obtain ⟨vc3, vf3, X3, hs3⟩ := HP.out.arena hA3
  have HOUT := z_ hout
  have HS3 := z_ hs3
  clear hout hA3 hs3
  have HRI := z_ (show RefPre w3 base q 4 9 (.slice none 0 0) X3 [] A1 A2 c1 c2 id key from
    ⟨HS3.out.pr.r, CsOk.nil, HS3.out.bx HVA.out.1, HS3.out.bx HVA.out.2, HO.out.1, HO.out.2, HLN.out.1, HLN.out.2, (fun n h => by cases h)⟩)
  go_wp2_with fail
  refine (rinsert_calls HRI.out root since none (TreeIn.none 4 (nodeAt_nil _) CsG.nil)).mono ?_
  rintro e w4 ⟨j, f, cs2, hout, rfl, hA4⟩
  obtain ⟨rfl, rfl, rfl⟩ := HOUT.out.same hout
  obtain ⟨vl4, X4, hs4⟩ := HS3.out.pr.ref hA4
  have HS4 := z_ (HS3.out.trans hs4)
  have HE := z_ (errs_out HO.out.1 HO.out.2 hout)
  clear hout hA4 hs4
  go_wp2_with fail
  refine (get_calls HS4.out.pr.a root none HE.out.1 A1 c1 id (Kd.V_reads' (HS4.out.bx HVA.out.1)).2.2 (Kd.V_reads' HVA.out.1).2.1 HO.out.1).mono ?_
  rintro e w5 ⟨hI, hb⟩
  obtain ⟨B1, B2, d1, d2, rfl, x1, x2⟩ := hI
  have HS5 := z_ (HS4.out.below hb)
  have hok : (findO (keyB id) id root none).item.ok = false := rfl
  rw [hok]
  clear x1 x2 hb hok
  obtain ⟨w6, hw6⟩ : ∃ x, x = w5.alloc (.cells #[.slice B1 (findO (keyB id) id root none).item.id.length d1, .slice B2 (findO (keyB id) id root none).item.key.length d2, .int .i64 (findO (keyB id) id root none).item.since] 51) := ⟨_, rfl⟩
  have HS6 := z_ (HS5.out.below (show Below w5.heap.size w5 w6 from by rw [hw6]; exact below_alloc (Below.refl _ _) _))
  have hi1 : (j == j) = true := by simp
  have hi2 : (f == f) = true := by simp
  go_wp2_with fail
  rw [<- hw6]
  clear hw6
  refine (usedA_calls HS6.out.pr.a).mono ?_
  rintro e w7 ⟨rfl, hdr⟩
  have HS7 := z_ (HS6.out.below hdr.below)
  clear hdr
  go_wp2_with fail
  refine (rused_calls HS7.out.pr.r).mono ?_
  rintro e w' ⟨rfl, rfl⟩
  have hi3 : ((usedN cs2 : Int) == (usedN cs2 : Int)) = true := by simp
  by_cases hf : f = 0
  · have hf1 : (f == 0) = true := by rw [hf]; rfl
    have hf2 : (root == j) = false := by simpa using HE.out.2.2 hf
    clear hf
    go_wp2_with fail
    refine (items_none HS7.out.pr.a 5 HE.out.2.1).mono ?_
    rintro e w8 ⟨rfl, hb⟩
    have HS8 := z_ (HS7.out.below hb)
    clear hb
    go_wp2_with fail
    refine (awake10_calls w8 (HG.out _ HS8.out.low)).mono ?_
    rintro e w9 ⟨rfl, hb⟩
    have HB9 := z_ (HB2.out.trans ((show Below w.heap.size w2 w8 from by have := HS8.out.low; rwa [HBE.out] at this).trans (hb.mono (by have h1 := HB2.out.size; have h2 := HS8.out.low.size; omega))))
    clear hb
    go_wp2_with fail
    go_ret
    exact ⟨rfl, HB9.out⟩
  · have hf1 : (f == 0) = false := by simpa using hf
    clear hf
    go_wp2_with fail
    refine (items_none HS7.out.pr.a 5 HE.out.2.1).mono ?_
    rintro e w8 ⟨rfl, hb⟩
    have HS8 := z_ (HS7.out.below hb)
    clear hb
    go_wp2_with fail
    refine (awake10_calls w8 (HG.out _ HS8.out.low)).mono ?_
    rintro e w9 ⟨rfl, hb⟩
    have HB9 := z_ (HB2.out.trans ((show Below w.heap.size w2 w8 from by have := HS8.out.low; rwa [HBE.out] at this).trans (hb.mono (by have h1 := HB2.out.size; have h2 := HS8.out.low.size; omega))))
    clear hb
    go_wp2_with fail
    go_ret
    exact ⟨rfl, HB9.out⟩
end Go.Proofs.YtdeneoknjeegbaaDoor.P
end
section
namespace Go.Proofs.YtdeneoknjeegbaaDoor.P
open Go.RowKit YtdeneoknjeegbaaDoorW.PrintWords YtdeneoknjeegbaaDoorW.PrintLast YtdeneoknjeegbaaDoorW.PrintMore
theorem list_of {α : Type} (n : Nat) (R : Nat -> α -> Prop) (h : ∀ i, i < n -> ∃ a, R i a) : ∃ xs : List α, xs.length = n /\ ∀ i a, xs[i]? = some a -> R i a := by
  induction n with
  | zero => exact ⟨[], rfl, fun i a hi => by simp at hi⟩
  | succ n ih =>
    obtain ⟨xs, hl, hx⟩ := ih (fun i hi => h i (by omega))
    obtain ⟨a, ha⟩ := h n (by omega)
    refine ⟨xs ++ [a], by simp [hl], fun i b hb => ?_⟩
    by_cases hi : i < n
    · rw [List.getElem?_append_left (by omega)] at hb
      exact hx i b hb
    · rw [List.getElem?_append_right (by omega)] at hb
      have h0 : i - xs.length = 0 := by
        have := (List.getElem?_eq_some_iff.1 hb).1
        simp at this
        omega
      rw [h0] at hb
      have hin : i = n := by omega
      subst hin
      have : a = b := by simpa using hb
      subst this
      exact ha
theorem weightsAll_mem {H : Type} {P : Program} {e : TypeId} {l : List (DataW H)} {d : DataW H} (hd : d ∈ l) {n : Nat} (hn : n ∈ d.weights P e) : n ∈ DataW.weightsAll P e l := by
  induction l with
  | nil => simp at hd
  | cons a l ih =>
    simp only [DataW.weightsAll, List.mem_append]
    rcases List.mem_cons.1 hd with rfl | hd
    · exact .inl hn
    · exact .inr (ih hd)
structure Opens (P : Program) (t : Nat) {α : Type} (d : Kd α) (wf : α -> Prop) : Prop where
  size : P.cellsOf t = d.sz
  get : ∀ {H : Type} {enc : TypeId × Value -> H} {w : World} {base : Nat} {spare : Nat -> Bool} {held : Bool} {fuel : Nat} {cs : List Value} {x : DataW H × List MemPlace},
    DataW.trod enc P w base spare held fuel t cs = some x -> (∀ n ∈ x.1.weights P t, n <= reachBytes) -> ∃ a, d.K w a cs /\ wf a
theorem Opens.imp {P : Program} {t : Nat} {α : Type} {d : Kd α} {wf wf' : α -> Prop} (h : Opens P t d wf) (hi : ∀ a, wf a -> wf' a) : Opens P t d wf' :=
  ⟨h.size, fun h1 h2 => by
    obtain ⟨a, h3, h4⟩ := h.get h1 h2
    exact ⟨a, h3, hi a h4⟩⟩
theorem Opens.int {P : Program} {t : Nat} {k : IntKind} (hu : P.underlying t = some (.int k)) (hc : P.cellsOf t = 1) : Opens P t (Kd.int k) (fun n => (Lit.int k n).wf = true) :=
  ⟨hc, fun h _ => by
    obtain ⟨n, rfl, _, hw⟩ := DataW.trod_int hu h
    exact ⟨n, rfl, hw⟩⟩
theorem Opens.bool {P : Program} {t : Nat} (hu : P.underlying t = some .bool) (hc : P.cellsOf t = 1) : Opens P t Kd.bool (fun _ => True) :=
  ⟨hc, fun h _ => by
    obtain ⟨n, rfl, _⟩ := DataW.trod_bool hu h
    exact ⟨n, rfl, trivial⟩⟩
theorem Opens.slice {P : Program} {t e : Nat} {α : Type} {d : Kd α} {wf : α -> Prop} (hu : P.underlying t = some (.slice e)) (hc : P.cellsOf t = 1) (he : Opens P e d wf) :
    Opens P t (Kd.slice e d) (fun xs => xs.length * P.bytesOf e <= reachBytes /\ ∀ a, a ∈ xs -> wf a) := by
  refine ⟨hc, fun {H enc w base spare held fuel cs x} h hw => ?_⟩
  rcases DataW.trod_slice hu h with ⟨rfl, rfl⟩ | ⟨ad, len, cap, elems, rest, n, _, rfl, rfl, hb, hl, hm, hlen, hel, hsp, hns⟩
  · exact ⟨[], ⟨none, 0, rfl, Nat.le_refl _, Kd.C_nil d w⟩, by simp, by simp⟩
  · have hwa : ∀ d0 ∈ elems.map (·.1), ∀ m ∈ DataW.weights P e d0, m <= reachBytes := fun d0 hd0 m hm0 => hw m (by
      simp only [DataW.weights, hu, List.mem_cons, List.mem_append]
      exact .inr (.inl (weightsAll_mem hd0 hm0)))
    have hsz : (elems.length + rest.length) * P.bytesOf e <= reachBytes := hw _ (by simp [DataW.weights, hu])
    obtain ⟨xs, hxl, hx⟩ := list_of len (fun i a => wf a /\ ∃ c, c.length = d.sz /\ d.K w a c /\ ∀ j u, c[j]? = some u -> w.cell? (ad.add (i * d.sz + j)) = some u) (fun i hi => by
      have h1 := hel i hi
      have hi' : i < elems.length := by omega
      rw [List.getElem?_eq_getElem hi', Option.bind_eq_some_iff] at h1
      obtain ⟨c, hc1, hc2⟩ := h1
      obtain ⟨_, hlc, hcell⟩ := World.cells?_some hc1
      obtain ⟨a, hK, hwf⟩ := he.get hc2 (fun m hm0 => hwa _ (List.mem_map.2 ⟨_, List.getElem_mem hi', rfl⟩) m hm0)
      refine ⟨a, hwf, c, d.K_len hK, hK, fun j u hj => ?_⟩
      have hj' : j < c.length := (List.getElem?_eq_some_iff.1 hj).1
      have h2 := hcell j (by omega)
      rw [hj] at h2
      rw [<- h2, he.size]
      congr 1
      unfold Addr.add
      by_cases h3 : i * d.sz = 0 <;> by_cases h4 : j = 0 <;> simp [h3, h4, Nat.add_assoc])
    refine ⟨xs, ⟨some ad, cap, by rw [hxl], by omega, ⟨rfl, by unfold maxLen at hm; omega, fun _ => ⟨ad, rfl, fun j p hj => ?_⟩⟩⟩, ?_, fun a ha => ?_⟩
    · obtain ⟨_, c, h1, h2, h3⟩ := hx j p hj
      exact ⟨c, h1, h2, h3⟩
    · rw [hxl]
      refine Nat.le_trans (Nat.mul_le_mul_right _ ?_) hsz
      omega
    · obtain ⟨i, hi⟩ := List.getElem?_of_mem ha
      exact (hx i a hi).1
structure OpensF (P : Program) (fs : List Field) (off : Nat) {α : Type} (d : Kd α) (wf : α -> Prop) : Prop where
  get : ∀ {H : Type} {enc : TypeId × Value -> H} {w : World} {base : Nat} {spare : Nat -> Bool} {held : Bool} {fuel : Nat} {cs : List Value} {xs : List (DataW H × List MemPlace)},
    cs.length = off + d.sz -> xs.length = fs.length -> (∀ (i : Nat) (f : Field), fs[i]? = some f -> DataW.trod enc P w base spare held fuel f.type ((cs.drop f.offset).take (P.cellsOf f.type)) = xs[i]?) ->
    (∀ n ∈ DataW.weightsEach P (fs.map (·.type)) (xs.map (·.1)), n <= reachBytes) -> ∃ a, d.K w a (cs.drop off) /\ wf a
theorem OpensF.cons {P : Program} {f : Field} {fs : List Field} {α β : Type} {d : Kd α} {d' : Kd β} {wf : α -> Prop} {wf' : β -> Prop} {t off off' : Nat} (ht : f.type = t) (ho : f.offset = off) (h : Opens P t d wf)
    (ho' : off + d.sz = off') (hr : OpensF P fs off' d' wf') : OpensF P (f :: fs) off (Kd.pair d d') (fun x => wf x.1 /\ wf' x.2) := by
  subst ht
  subst ho
  subst ho'
  refine ⟨fun {H enc w base spare held fuel cs xs} hl hxl hx hw => ?_⟩
  match xs, hxl with
  | x :: xs, hxl =>
    have hl' : cs.length = f.offset + (d.sz + d'.sz) := hl
    have h1 := hx 0 f rfl
    obtain ⟨a, ha, hwa⟩ := h.get h1 (fun n hn => hw n (by simp only [List.map_cons, DataW.weightsEach, List.mem_append]; exact .inl hn))
    obtain ⟨b, hb, hwb⟩ := hr.get (by rw [hl']; omega) (by simpa using hxl) (fun i g hg => by simpa using hx (i + 1) g (by simpa using hg)) (fun n hn => hw n (by simp only [List.map_cons, DataW.weightsEach, List.mem_append]; exact .inr hn))
    refine ⟨(a, b), ⟨_, _, ?_, ha, hb⟩, hwa, hwb⟩
    rw [h.size]
    have := List.take_append_drop d.sz (cs.drop f.offset)
    rw [List.drop_drop] at this
    exact this.symm
theorem Opens.struct {P : Program} {t : Nat} {fs : Array Field} {α : Type} {d : Kd α} {wf : α -> Prop} (hu : P.underlying t = some (.struct fs)) (hc : P.cellsOf t = d.sz) (h : OpensF P fs.toList 0 d wf) : Opens P t d wf := by
  refine ⟨hc, fun {H enc w base spare held fuel cs x} h1 hw => ?_⟩
  obtain ⟨xs, n, _, rfl, hl, hxl, hx⟩ := DataW.trod_struct hu h1
  have := h.get (cs := cs) (by rw [hl, hc]; omega) (by simpa using hxl) (fun i f hf => hx i f (by simpa using hf)) (fun n hn => hw n (by simp only [DataW.weights, hu]; exact hn))
  simpa using this
theorem Opens.iso {P : Program} {t : Nat} {α β : Type} {d : Kd α} {wf : α -> Prop} (h : Opens P t d wf) (f : β -> α) (g : α -> β) (hfg : ∀ a, f (g a) = a) : Opens P t (Kd.iso d f) (fun b => wf (f b)) :=
  ⟨h.size, fun h1 hw => by
    obtain ⟨a, ha, hwa⟩ := h.get h1 hw
    exact ⟨g a, by show d.K _ (f (g a)) _; rw [hfg]; exact ha, by show wf (f (g a)); rw [hfg]; exact hwa⟩⟩
theorem Opens.param {P : Program} {t e : Nat} {α : Type} {d : Kd α} {wf : List α -> Prop} (ho : Opens P t (Kd.slice e d) wf) {H : Type} {enc : TypeId × Value -> H} {w : World} {base : Nat} {spare : Nat -> Bool} {held : Bool} {fuel : Nat}
    {A : Option Addr} {len cap : Nat} {x : DataW H × List MemPlace} (h : DataW.trod enc P w base spare held fuel t [.slice A len cap] = some x) (hw : ∀ n ∈ x.1.weights P t, n <= reachBytes) :
    ∃ xs : List α, len = xs.length /\ xs.length <= cap /\ d.C w A xs.length xs /\ wf xs := by
  obtain ⟨xs, ⟨A', c, he, hl, hC⟩, hwf⟩ := ho.get h hw
  injection he with he _
  injection he with h1 h2 h3
  subst h1
  subst h3
  exact ⟨xs, h2, hl, hC, hwf⟩
end Go.Proofs.YtdeneoknjeegbaaDoor.P
end
section
namespace Go.Proofs.YtdeneoknjeegbaaDoor.P
open Go.RowKit Go.ChangeShapes Go.WideShapes YtdeneoknjeegbaaDoorW.PrintWords YtdeneoknjeegbaaDoorW.PrintLast YtdeneoknjeegbaaDoorW.PrintMore
theorem opensByte : Opens Tryd.prog 5 (Kd.int .u8) (fun n => (Lit.int .u8 n).wf = true) := Opens.int Tryd.underlying5 (by kernel_rfl)
theorem opensBytes : Opens Tryd.prog 31 (Kd.slice 5 (Kd.int .u8)) (fun xs => xs.length * Tryd.prog.bytesOf 5 <= reachBytes /\ ∀ a, a ∈ xs -> (Lit.int .u8 a).wf = true) := Opens.slice Tryd.underlying31 (by kernel_rfl) opensByte
theorem wfB {l : List Int} (h : ∀ x ∈ l, (Lit.int .u8 x).wf = true) : BytesOk l := by
  intro x hx
  have := h x hx
  simp only [Lit.wf, IntKind.min, IntKind.max, IntKind.signed, IntKind.bits, Bool.and_eq_true, decide_eq_true_eq] at this
  simp at this
  omega
theorem each_mem {H : Type} {P : Program} : ∀ {ts : List TypeId} {ds : List (DataW H)} (h : (DataW.weightsEach P ts ds).all (· <= reachBytes) = true) (j : Nat) (t : TypeId) (d : DataW H), ts[j]? = some t -> ds[j]? = some d -> ∀ n ∈ d.weights P t, n <= reachBytes
  | [], _, _, j, t, d, ht, _ => by simp at ht
  | t0 :: ts, [], _, j, t, d, _, hd => by simp at hd
  | t0 :: ts, d0 :: ds, h, j, t, d, ht, hd => by
    simp only [DataW.weightsEach, List.all_append, Bool.and_eq_true] at h
    cases j with
    | zero =>
      obtain rfl := Option.some.inj ht
      obtain rfl := Option.some.inj hd
      intro n hn
      have := List.all_eq_true.1 h.1 n hn
      simpa using this
    | succ j => exact each_mem h.2 j t d (by simpa using ht) (by simpa using hd)
end Go.Proofs.YtdeneoknjeegbaaDoor.P
end
section
namespace Go.Proofs.YtdeneoknjeegbaaDoor.P
open Go.RowKit Go.ChangeShapes Go.WideShapes YtdeneoknjeegbaaDoorW.PrintWords YtdeneoknjeegbaaDoorW.PrintLast YtdeneoknjeegbaaDoorW.PrintMore
section
variable {H : Type} {enc : TypeId × Value -> H} {w : World} {base : Nat} {spare : Nat -> Bool} {held : Bool} {r : Go.Reach} {b0 : Nat} {v : Value} {d : DataW H} {p : List MemPlace}
set_option maxRecDepth 100000 in
theorem bytes_param (hv : Value.okWide Tryd.prog w r b0 31 v) (h : DataW.Trod enc Tryd.prog w base spare held 31 v d p) (hw : ∀ n ∈ d.weights Tryd.prog 31, n <= reachBytes) :
    ∃ (A : Option Addr) (c : Nat) (xs : List Int), v = .slice A xs.length c /\ xs.length <= c /\ Kd.C (Kd.int .u8) w A xs.length xs /\ BytesOk xs := by
  obtain ⟨A, len, cap, rfl⟩ := okWide_slice Tryd.underlying31 hv
  obtain ⟨fuel, hf⟩ := h
  obtain ⟨xs, rfl, hl, hC, hwf⟩ := opensBytes.param hf hw
  exact ⟨A, cap, xs, rfl, hl, hC, wfB hwf.2⟩
end
end Go.Proofs.YtdeneoknjeegbaaDoor.P
end
section
namespace Go.Proofs.YtdeneoknjeegbaaDoorW.PrintWords
open Go.ChangeShapes Go.WideShapes

end Go.Proofs.YtdeneoknjeegbaaDoorW.PrintWords
end
