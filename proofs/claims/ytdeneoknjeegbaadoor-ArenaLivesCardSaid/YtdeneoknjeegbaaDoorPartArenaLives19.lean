/- Lemmas of this claim, part 19. -/
import Derived.Test.YtdeneoknjeegbaaDoorPartArenaLives18
import Derived.WalkSpells
import Derived.Outline
import Derived.Test.YtdeneoknjeegbaaDoorPartArenaLives17
import Derived.Test.YtdeneoknjeegbaaDoorPartArenaLives2
section
set_option linter.unusedVariables false
set_option linter.unusedSimpArgs false
namespace Go.Proofs.YtdeneoknjeegbaaDoor.P
open Go.RowKit Go.Proofs.YtdeneoknjeegbaaDoor.Pure Go.Proofs.YtdeneoknjeegbaaDoorW.PrintWords Go.Proofs.YtdeneoknjeegbaaDoorW.PrintLast Go.Proofs.YtdeneoknjeegbaaDoorW.PrintMore
def DoP (w w' : World) (base p q : Nat) (size room : Int) (X : Nat → Prop) : Prop := ∃ vc vf vl X' cs, Step w w' base p q size room vc vf vl X X' cs cs ∧ CsOk cs
def PutOut (c : Prop) (cs : Cs) (room : Int) (n : Nd) (i er : Int) (cs' : Cs) : Prop := (c ∧ i = 0 ∧ er = 1 ∧ cs' = cs) ∨ (¬ c ∧ (usedN cs : Int) = room ∧ i = 0 ∧ er = 4 ∧ cs' = cs) ∨ (¬ c ∧ (usedN cs : Int) ≠ room ∧ i = (lowN cs : Int) ∧ er = 0 ∧ cs' = putC cs n)
theorem PutOut.same {c : Prop} {cs : Cs} {room : Int} {n : Nd} {i er j f : Int} {cs1 cs2 : Cs} (h : PutOut c cs room n i er cs1) (k : PutOut c cs room n j f cs2) : j = i ∧ f = er ∧ cs2 = cs1 := by
  rcases h with ⟨h1, rfl, rfl, rfl⟩ | ⟨h1, h2, rfl, rfl, rfl⟩ | ⟨h1, h2, rfl, rfl, rfl⟩ <;> rcases k with ⟨k1, rfl, rfl, rfl⟩ | ⟨k1, k2, rfl, rfl, rfl⟩ | ⟨k1, k2, rfl, rfl, rfl⟩ <;> first | exact ⟨rfl, rfl, rfl⟩ | exact absurd h1 k1 | exact absurd k1 h1 | exact absurd h2 k2 | exact absurd k2 h2
theorem PutOut.ok {c : Prop} {cs : Cs} {room : Int} {n : Nd} {i er : Int} {cs1 : Cs} (h : PutOut c cs room n i er cs1) (hcs : CsOk cs) (hn : ¬ c → NdLen n ∧ BytesOk n.f9) : CsOk cs1 := by
  rcases h with ⟨h1, rfl, rfl, rfl⟩ | ⟨h1, h2, rfl, rfl, rfl⟩ | ⟨h1, h2, rfl, rfl, rfl⟩
  · exact hcs
  · exact hcs
  · exact hcs.put (hn h1)
theorem PutPost.out {c : Prop} {w w' : World} {base p : Nat} {size room : Int} {vc vf : Value} {X : Nat → Prop} {cs : Cs} {n : Nd} {e : Ending} (h : PutPost c w w' base p size room vc vf X cs n e) : ∃ i er cs', PutOut c cs room n i er cs' ∧ e = .returned (.tuple #[.int .i64 i, .int .i64 er]) ∧ ArenaP w w' base p size room vc vf X cs' := by
  by_cases hc : c
  · exact ⟨0, 1, cs, .inl ⟨hc, rfl, rfl, rfl⟩, h.bad hc⟩
  · by_cases hf : (usedN cs : Int) = room
    · exact ⟨0, 4, cs, .inr (.inl ⟨hc, hf, rfl, rfl, rfl⟩), h.full hc hf⟩
    · exact ⟨_, 0, _, .inr (.inr ⟨hc, hf, rfl, rfl, rfl⟩), h.ok hc hf⟩
theorem RPost.out {c : Prop} {w w' : World} {base q : Nat} {size room : Int} {vl : Value} {X : Nat → Prop} {cs : Cs} {n : Nd} {e : Ending} (h : RPost c w w' base q size room vl X cs n e) : ∃ i er cs', PutOut c cs room n i er cs' ∧ e = .returned (.tuple #[.int .i64 i, .int .i64 er]) ∧ RefP w w' base q size room vl X cs' := by
  by_cases hc : c
  · exact ⟨0, 1, cs, .inl ⟨hc, rfl, rfl, rfl⟩, h.bad hc⟩
  · by_cases hf : (usedN cs : Int) = room
    · exact ⟨0, 4, cs, .inr (.inl ⟨hc, hf, rfl, rfl, rfl⟩), h.full hc hf⟩
    · exact ⟨_, 0, _, .inr (.inr ⟨hc, hf, rfl, rfl, rfl⟩), h.ok hc hf⟩
theorem Pr.box {w w1 : World} {base p q : Nat} {size room : Int} {vc vf vl : Value} {X : Nat → Prop} {cs cs2 : Cs} (h : Pr w base p q size room vc vf vl X cs cs2) (hb : Below w.heap.size w w1) (g : Nat) (hg : w.heap.size ≤ g) (hg1 : g < w1.heap.size) : Step w w1 base p q size room vc vf vl X (fun k => X k ∨ k = g) cs cs2 := by
  refine ⟨⟨?_, ?_, h.apart⟩, fun k hk => .inl hk, hb.mono h.a.base_le.1, fun k hk => hb.block k (h.a.sep k hk).1⟩
  · refine (h.a.below hb).step (Nat.le_refl _) (fun _ _ _ => rfl) (fun k hk => .inl hk) (fun k hk => ?_)
    rcases hk with hk | rfl
    · exact ⟨Nat.lt_of_lt_of_le (h.a.sep k hk).1 hb.size, (h.a.sep k hk).2⟩
    · exact ⟨hg1, fun ho => by have := h.a.own k ho; omega⟩
  · refine (h.r.below hb).step (Nat.le_refl _) (fun _ _ _ => rfl) (fun k hk => .inl hk) (fun k hk => ?_)
    rcases hk with hk | rfl
    · exact ⟨Nat.lt_of_lt_of_le (h.r.sep k hk).1 hb.size, (h.r.sep k hk).2⟩
    · exact ⟨hg1, fun ho => by have := h.r.own k ho; omega⟩
theorem Step.bx {w w' : World} {base p q : Nat} {size room : Int} {vc vf vl : Value} {X X' : Nat → Prop} {cs cs2 : Cs} (h : Step w w' base p q size room vc vf vl X X' cs cs2) {v : Value} {l : List Int} (hb : BX w X v l) : BX w' X' v l :=
  Kd.V_mono (Kd.V_step hb (fun k hk _ => h.same k hk)) h.sub
theorem Step.ints {w w' : World} {base p q : Nat} {size room : Int} {vc vf vl : Value} {X X' : Nat → Prop} {cs cs2 : Cs} (h : Step w w' base p q size room vc vf vl X X' cs cs2) {v : Value} {l : List Int} (hb : Kd.V (Kd.int .i64) 3 w 0 X v l) : Kd.V (Kd.int .i64) 3 w' 0 X' v l :=
  Kd.V_mono (Kd.V_step hb (fun k hk _ => h.same k hk)) h.sub
theorem Step.trans {w w1 w2 : World} {base p q : Nat} {size room : Int} {vc vf vl vc' vf' vl' : Value} {X X1 X2 : Nat → Prop} {cs cs2 cs3 cs4 : Cs} (h : Step w w1 base p q size room vc vf vl X X1 cs cs2) (k : Step w1 w2 base p q size room vc' vf' vl' X1 X2 cs3 cs4) : Step w w2 base p q size room vc' vf' vl' X X2 cs3 cs4 :=
  ⟨k.pr, fun i hi => k.sub i (h.sub i hi), h.low.trans k.low, fun i hi => (k.same i (h.sub i hi)).trans (h.same i hi)⟩
theorem GlobS.step {w w' : World} {base p q : Nat} {size room : Int} {vc vf vl : Value} {X X' : Nat → Prop} {cs cs2 : Cs} (h : Step w w' base p q size room vc vf vl X X' cs cs2) {w0 : World} (hb : base = w0.heap.size) (hg : GlobS w0) (h0 : Below base w0 w) : GlobS w' := by
  subst hb
  exact GlobS.of hg (h0.trans h.low)
theorem Step.below {w w1 w2 : World} {base p q : Nat} {size room : Int} {vc vf vl : Value} {X X' : Nat → Prop} {cs cs2 : Cs} (h : Step w w1 base p q size room vc vf vl X X' cs cs2) (hb : Below w1.heap.size w1 w2) : Step w w2 base p q size room vc vf vl X X' cs cs2 :=
  ⟨h.pr.below hb, h.sub, h.low.trans (hb.mono h.pr.a.base_le.1), fun k hk => (hb.block k (h.pr.a.sep k (h.sub k hk)).1).trans (h.same k hk)⟩
theorem Step.roots {w w' : World} {base p q : Nat} {size room : Int} {vc vf vl : Value} {X X' : Nat → Prop} {cs cs2 : Cs} (h : Step w w' base p q size room vc vf vl X X' cs cs2) {v : Value} {l : List Int} (hb : Kd.V (Kd.int .i64) 3 w 0 X v l) : Kd.V (Kd.int .i64) 3 w' 0 (fun k => k < w'.heap.size) v l :=
  Kd.V_mono (h.ints hb) (fun k hk => (h.pr.a.sep k hk).1)
def does_T11 : Bool × List (List Nat × List Nat) := (true, [([], []), ([], []), ([1], [1]), ([0, 2], [0, 2]), ([], []), ([], []), ([5], [5]), ([4, 6, 3], [4, 6]), ([3, 7], [3, 7]), ([8, 7, 0, 1, 2, 3, 4, 5, 6, 7, 8], [8])])
def does_B11 : List Nat := [0, 0, 2, 7, 0, 0, 32, 127, 255, 511]
theorem does_tab11 : rtab .any (opsOf Tryd.f11 11) = does_T11 := by kernel_rfl
theorem does_bits11 : waitsOk does_T11.2 does_B11 = true := by kernel_rfl
set_option maxHeartbeats 8000000 in
set_option maxRecDepth 100000 in
theorem does_leaf0 {w w0 : World} {base p q : Nat} {size room : Int} {vc vf vl : Value} {X : Nat → Prop} {cs : Cs} (h : Pr w base p q size room vc vf vl X cs cs) (hcs : CsOk cs) (op a b d : Int) (A4 A5 A6 : Option Addr) (c4 c5 c6 : Nat) (x y rs : List Int)
    (bx : BX w X (.slice A4 x.length c4) x) (by_ : BX w X (.slice A5 y.length c5) y) (ox : BytesOk x) (oy : BytesOk y) (hr : Kd.V (Kd.int .i64) 3 w 0 X (.slice A6 rs.length c6) rs) (hrn : rs.length ≤ 4294967296) (hd : d ≤ 9223372036854775807) (hbase : base = w0.heap.size) (hGS : GlobS w0) (hW : Below base w0 w) (ho : wrap64 ((IntKind.u64.wrap op).tmod 4) = 0) :
    Calls Tryd.prog 11 #[.agg #[.int .i64 op, .int .i64 a, .int .i64 b, .int .i64 d, .slice A4 x.length c4, .slice A5 y.length c5, .slice A6 rs.length c6], .pointer (some ⟨p, 0, none⟩), .pointer (some ⟨q, 0, none⟩)] w
      fun e w' => e = .returned (.bool true) ∧ DoP w w' base p q size room X := by
  have H := Aside0.mk h
  have HCS := Aside0.mk hcs
  have HX := Aside0.mk bx
  have HY := Aside0.mk by_
  have HOX := Aside0.mk ox
  have HOY := Aside0.mk oy
  have HR := Aside0.mk hr
  have HRN := Aside0.mk hrn
  have HD := Aside0.mk hd
  have HG := Aside0.mk (show ∀ W1 vc vf vl (X' : Nat → Prop) cs cs2, Step w W1 base p q size room vc vf vl X X' cs cs2 → GlobS W1 from fun W1 vc vf vl X' cs cs2 hs => GlobS.step hs hbase hGS hW)
  clear h hcs bx by_ ox oy hr hrn hd hGS hbase hW
  go_enter Tryd.func11, Tryd.ntmps11
  go_wp2_with (((with_reducible refine gate_dst (N := 3) rfl ?_); go_must (refine box_event ?hg (N := 3) ?hd (cs := #[.int .i64 op, .int .i64 a, .int .i64 b, .int .i64 d, .slice A4 x.length c4, .slice A5 y.length c5, .slice A6 rs.length c6]) (t := 34) ?hr ?_; (case hd => rfl); (case hg => rfl); (case hr => first | (go_simp; done) | (go_simp; rfl)); intro g hg w1 hbox hb; have HS1 := Aside0.mk (H.out.box hb g (by omega) (blk_lt hbox)); have HN1 := Aside0.mk hbox; clear hg hb; have k0 := blk_cell hbox 0; simp at k0; have k1 := blk_cell hbox 1; simp at k1; have k4 := blk_cell hbox 4; simp at k4; have k5 := blk_cell hbox 5; simp at k5; clear hbox)))
  refine (leaf_calls HS1.out.pr.a A4 A5 c4 c5 x y a (HS1.out.bx HX.out) (HS1.out.bx HY.out) (HG.out _ _ _ _ _ _ _ HS1.out)).mono ?_
  rintro e w2 hp
  obtain ⟨i, er, cs1, hout, rfl, hA⟩ := hp.out
  obtain ⟨vc2, vf2, X2, hs2⟩ := HS1.out.pr.arena hA
  have HO := Aside0.mk hout
  have HS2 := Aside0.mk (HS1.out.trans hs2)
  have hbox2 := (hs2.same g (.inr rfl)).trans HN1.out
  clear hp hout hA hs2 k0 k1 k4 k5
  have k1 := blk_cell hbox2 1
  simp at k1
  have k4 := blk_cell hbox2 4
  simp at k4
  have k5 := blk_cell hbox2 5
  simp at k5
  clear hbox2
  go_wp2_with fail
  refine (rleaf_calls HS2.out.pr.r A4 A5 c4 c5 x y a (HS2.out.bx HX.out) (HS2.out.bx HY.out) HOX.out HOY.out).mono ?_
  rintro e w3 hp
  obtain ⟨j, f, cs3, hout, rfl, hA⟩ := hp.out
  obtain ⟨rfl, rfl, rfl⟩ := HO.out.same hout
  obtain ⟨vl3, X3, hs3⟩ := HS2.out.pr.ref hA
  have HS3 := Aside0.mk (HS2.out.trans hs3)
  clear hp hout hA hs3 k1 k4 k5
  go_wp2_with fail
  go_ret
  exact ⟨by simp, _, _, _, _, _, HS3.out, HO.out.ok HCS.out (fun hc => leafNd_ok _ _ _ _ (by omega) (by omega))⟩
set_option maxHeartbeats 8000000 in
set_option maxRecDepth 100000 in
theorem does_leaf1 {w w0 : World} {base p q : Nat} {size room : Int} {vc vf vl : Value} {X : Nat → Prop} {cs : Cs} (h : Pr w base p q size room vc vf vl X cs cs) (hcs : CsOk cs) (op a b d : Int) (A4 A5 A6 : Option Addr) (c4 c5 c6 : Nat) (x y rs : List Int)
    (bx : BX w X (.slice A4 x.length c4) x) (by_ : BX w X (.slice A5 y.length c5) y) (ox : BytesOk x) (oy : BytesOk y) (hr : Kd.V (Kd.int .i64) 3 w 0 X (.slice A6 rs.length c6) rs) (hrn : rs.length ≤ 4294967296) (hd : d ≤ 9223372036854775807) (hbase : base = w0.heap.size) (hGS : GlobS w0) (hW : Below base w0 w) (ho : wrap64 ((IntKind.u64.wrap op).tmod 4) = 1) :
    Calls Tryd.prog 11 #[.agg #[.int .i64 op, .int .i64 a, .int .i64 b, .int .i64 d, .slice A4 x.length c4, .slice A5 y.length c5, .slice A6 rs.length c6], .pointer (some ⟨p, 0, none⟩), .pointer (some ⟨q, 0, none⟩)] w
      fun e w' => e = .returned (.bool true) ∧ DoP w w' base p q size room X := by
  have H := Aside0.mk h
  have HCS := Aside0.mk hcs
  have HX := Aside0.mk bx
  have HY := Aside0.mk by_
  have HOX := Aside0.mk ox
  have HOY := Aside0.mk oy
  have HR := Aside0.mk hr
  have HRN := Aside0.mk hrn
  have HD := Aside0.mk hd
  have HG := Aside0.mk (show ∀ W1 vc vf vl (X' : Nat → Prop) cs cs2, Step w W1 base p q size room vc vf vl X X' cs cs2 → GlobS W1 from fun W1 vc vf vl X' cs cs2 hs => GlobS.step hs hbase hGS hW)
  clear h hcs bx by_ ox oy hr hrn hd hGS hbase hW
  go_enter Tryd.func11, Tryd.ntmps11
  go_wp2_with (((with_reducible refine gate_dst (N := 3) rfl ?_); go_must (refine box_event ?hg (N := 3) ?hd (cs := #[.int .i64 op, .int .i64 a, .int .i64 b, .int .i64 d, .slice A4 x.length c4, .slice A5 y.length c5, .slice A6 rs.length c6]) (t := 34) ?hr ?_; (case hd => rfl); (case hg => rfl); (case hr => first | (go_simp; done) | (go_simp; rfl)); intro g hg w1 hbox hb; have HS1 := Aside0.mk (H.out.box hb g (by omega) (blk_lt hbox)); have HN1 := Aside0.mk hbox; clear hg hb; have k0 := blk_cell hbox 0; simp at k0; have k1 := blk_cell hbox 1; simp at k1; have k4 := blk_cell hbox 4; simp at k4; have k5 := blk_cell hbox 5; simp at k5; clear hbox)))
  refine (leaf_calls HS1.out.pr.a A4 A5 c4 c5 x y a (HS1.out.bx HX.out) (HS1.out.bx HY.out) (HG.out _ _ _ _ _ _ _ HS1.out)).mono ?_
  rintro e w2 hp
  obtain ⟨i, er, cs1, hout, rfl, hA⟩ := hp.out
  obtain ⟨vc2, vf2, X2, hs2⟩ := HS1.out.pr.arena hA
  have HO := Aside0.mk hout
  have HS2 := Aside0.mk (HS1.out.trans hs2)
  have hbox2 := (hs2.same g (.inr rfl)).trans HN1.out
  clear hp hout hA hs2 k0 k1 k4 k5
  have k1 := blk_cell hbox2 1
  simp at k1
  have k4 := blk_cell hbox2 4
  simp at k4
  have k5 := blk_cell hbox2 5
  simp at k5
  clear hbox2
  go_wp2_with fail
  refine (rleaf_calls HS2.out.pr.r A4 A5 c4 c5 x y a (HS2.out.bx HX.out) (HS2.out.bx HY.out) HOX.out HOY.out).mono ?_
  rintro e w3 hp
  obtain ⟨j, f, cs3, hout, rfl, hA⟩ := hp.out
  obtain ⟨rfl, rfl, rfl⟩ := HO.out.same hout
  obtain ⟨vl3, X3, hs3⟩ := HS2.out.pr.ref hA
  have HS3 := Aside0.mk (HS2.out.trans hs3)
  clear hp hout hA hs3 k1 k4 k5
  go_wp2_with fail
  go_ret
  exact ⟨by simp, _, _, _, _, _, HS3.out, HO.out.ok HCS.out (fun hc => leafNd_ok _ _ _ _ (by omega) (by omega))⟩
set_option maxHeartbeats 8000000 in
set_option maxRecDepth 100000 in
theorem does_fork {w w0 : World} {base p q : Nat} {size room : Int} {vc vf vl : Value} {X : Nat → Prop} {cs : Cs} (h : Pr w base p q size room vc vf vl X cs cs) (hcs : CsOk cs) (op a b d : Int) (A4 A5 A6 : Option Addr) (c4 c5 c6 : Nat) (x y rs : List Int)
    (bx : BX w X (.slice A4 x.length c4) x) (by_ : BX w X (.slice A5 y.length c5) y) (ox : BytesOk x) (oy : BytesOk y) (hr : Kd.V (Kd.int .i64) 3 w 0 X (.slice A6 rs.length c6) rs) (hrn : rs.length ≤ 4294967296) (hd : d ≤ 9223372036854775807) (hbase : base = w0.heap.size) (hGS : GlobS w0) (hW : Below base w0 w) (ho : wrap64 ((IntKind.u64.wrap op).tmod 4) = 2) :
    Calls Tryd.prog 11 #[.agg #[.int .i64 op, .int .i64 a, .int .i64 b, .int .i64 d, .slice A4 x.length c4, .slice A5 y.length c5, .slice A6 rs.length c6], .pointer (some ⟨p, 0, none⟩), .pointer (some ⟨q, 0, none⟩)] w
      fun e w' => e = .returned (.bool true) ∧ DoP w w' base p q size room X := by
  have H := Aside0.mk h
  have HCS := Aside0.mk hcs
  have HX := Aside0.mk bx
  have HY := Aside0.mk by_
  have HOX := Aside0.mk ox
  have HOY := Aside0.mk oy
  have HR := Aside0.mk hr
  have HRN := Aside0.mk hrn
  have HD := Aside0.mk hd
  have HG := Aside0.mk (show ∀ W1 vc vf vl (X' : Nat → Prop) cs cs2, Step w W1 base p q size room vc vf vl X X' cs cs2 → GlobS W1 from fun W1 vc vf vl X' cs cs2 hs => GlobS.step hs hbase hGS hW)
  clear h hcs bx by_ ox oy hr hrn hd hGS hbase hW
  go_enter Tryd.func11, Tryd.ntmps11
  go_wp2_with (((with_reducible refine gate_dst (N := 3) rfl ?_); go_must (refine box_event ?hg (N := 3) ?hd (cs := #[.int .i64 op, .int .i64 a, .int .i64 b, .int .i64 d, .slice A4 x.length c4, .slice A5 y.length c5, .slice A6 rs.length c6]) (t := 34) ?hr ?_; (case hd => rfl); (case hg => rfl); (case hr => first | (go_simp; done) | (go_simp; rfl)); intro g hg w1 hbox hb; have HS1 := Aside0.mk (H.out.box hb g (by omega) (blk_lt hbox)); have HN1 := Aside0.mk hbox; clear hg hb; have k0 := blk_cell hbox 0; simp at k0; have k1 := blk_cell hbox 1; simp at k1; have k2 := blk_cell hbox 2; simp at k2; have k3 := blk_cell hbox 3; simp at k3; have k4 := blk_cell hbox 4; simp at k4; clear hbox)))
  refine (fork_calls HS1.out.pr.a A4 c4 x d a b (HS1.out.bx HX.out) (HG.out _ _ _ _ _ _ _ HS1.out)).mono ?_
  rintro e w2 hp
  obtain ⟨i, er, cs1, hout, rfl, hA⟩ := hp.out
  obtain ⟨vc2, vf2, X2, hs2⟩ := HS1.out.pr.arena hA
  have HO := Aside0.mk hout
  have HS2 := Aside0.mk (HS1.out.trans hs2)
  have hbox2 := (hs2.same g (.inr rfl)).trans HN1.out
  clear hp hout hA hs2 k0 k1 k2 k3 k4
  have k1 := blk_cell hbox2 1
  simp at k1
  have k2 := blk_cell hbox2 2
  simp at k2
  have k3 := blk_cell hbox2 3
  simp at k3
  have k4 := blk_cell hbox2 4
  simp at k4
  clear hbox2
  go_wp2_with fail
  refine (rfork_calls HS2.out.pr.r A4 c4 x d a b HD.out (HS2.out.bx HX.out) HOX.out (fun i n hn => HCS.out.at i n hn)).mono ?_
  rintro e w3 hp
  rw [rforkOf_eq _ _ _ _ HOX.out] at hp
  obtain ⟨j, f, cs3, hout, rfl, hA⟩ := hp.out
  obtain ⟨rfl, rfl, rfl⟩ := HO.out.same hout
  obtain ⟨vl3, X3, hs3⟩ := HS2.out.pr.ref hA
  have HS3 := Aside0.mk (HS2.out.trans hs3)
  clear hp hout hA hs3 k1 k2 k3 k4
  go_wp2_with fail
  go_ret
  exact ⟨by simp, _, _, _, _, _, HS3.out, HO.out.ok HCS.out (fun hc => forkOf_ok _ _ _ _ _ hc)⟩
set_option maxHeartbeats 8000000 in
set_option maxRecDepth 100000 in
theorem does_sweep {w w0 : World} {base p q : Nat} {size room : Int} {vc vf vl : Value} {X : Nat → Prop} {cs : Cs} (h : Pr w base p q size room vc vf vl X cs cs) (hcs : CsOk cs) (op a b d : Int) (A4 A5 A6 : Option Addr) (c4 c5 c6 : Nat) (x y rs : List Int)
    (bx : BX w X (.slice A4 x.length c4) x) (by_ : BX w X (.slice A5 y.length c5) y) (ox : BytesOk x) (oy : BytesOk y) (hr : Kd.V (Kd.int .i64) 3 w 0 X (.slice A6 rs.length c6) rs) (hrn : rs.length ≤ 4294967296) (hd : d ≤ 9223372036854775807) (hbase : base = w0.heap.size) (hGS : GlobS w0) (hW : Below base w0 w) (ho : wrap64 ((IntKind.u64.wrap op).tmod 4) = 3) :
    Calls Tryd.prog 11 #[.agg #[.int .i64 op, .int .i64 a, .int .i64 b, .int .i64 d, .slice A4 x.length c4, .slice A5 y.length c5, .slice A6 rs.length c6], .pointer (some ⟨p, 0, none⟩), .pointer (some ⟨q, 0, none⟩)] w
      fun e w' => e = .returned (.bool true) ∧ DoP w w' base p q size room X := by
  have H := Aside0.mk h
  have HCS := Aside0.mk hcs
  have HX := Aside0.mk bx
  have HY := Aside0.mk by_
  have HOX := Aside0.mk ox
  have HOY := Aside0.mk oy
  have HR := Aside0.mk hr
  have HRN := Aside0.mk hrn
  have HD := Aside0.mk hd
  have HG := Aside0.mk (show ∀ W1 vc vf vl (X' : Nat → Prop) cs cs2, Step w W1 base p q size room vc vf vl X X' cs cs2 → GlobS W1 from fun W1 vc vf vl X' cs cs2 hs => GlobS.step hs hbase hGS hW)
  clear h hcs bx by_ ox oy hr hrn hd hGS hbase hW
  go_enter Tryd.func11, Tryd.ntmps11
  go_wp2_with (((with_reducible refine gate_dst (N := 3) rfl ?_); go_must (refine box_event ?hg (N := 3) ?hd (cs := #[.int .i64 op, .int .i64 a, .int .i64 b, .int .i64 d, .slice A4 x.length c4, .slice A5 y.length c5, .slice A6 rs.length c6]) (t := 34) ?hr ?_; (case hd => rfl); (case hg => rfl); (case hr => first | (go_simp; done) | (go_simp; rfl)); intro g hg w1 hbox hb; have HS1 := Aside0.mk (H.out.box hb g (by omega) (blk_lt hbox)); have HN1 := Aside0.mk hbox; clear hg hb; have k0 := blk_cell hbox 0; simp at k0; have k6 := blk_cell hbox 6; simp at k6; clear hbox)))
  refine start_ (n := 10) (S := fun w' => w'.cell? ⟨g, 6, none⟩ = some (.slice A6 rs.length c6)) (ds := []) #[false, false, false, false, false, false, false, false, false, false] (by kernel_rfl) rfl rfl ?hs0 (fun hHeld => ?_)
  case hs0 => exact k6
  refine with_tabW does_tab11 does_bits11 (fun HT_ HW_ => ?_)
  have HS1 := Aside0.mk (HS1.out.below (below_drew (Below.refl _ _)))
  have HN1 := Aside0.mk (blk_below HN1.out (below_drew (Below.refl _ _)))
  generalize hgw : w1.drew = w22 at HS1 HN1 hHeld ⊢
  clear hgw
  refine pure_ (i := 0) (N := some 89) (v := ?_) (a' := ?_) #[true, false, false, false, false, false, false, false, false, false] rfl rfl (any_of HT_.out (by kernel_rfl)) (fun _ _ _ h => h) (Or.inl ⟨by rfl, ?_⟩) ?_ ?_
  rotate_left
  · intro w'
    go_simp
    with_reducible rfl
  rotate_left
  · simp only [Act.put, List.setIfInBounds_toArray, List.set_cons_zero, List.set_cons_succ, i64_w, i32_w]
    rfl
  refine pure_ (i := 1) (N := some 90) (v := ?_) (a' := ?_) #[true, true, false, false, false, false, false, false, false, false] rfl rfl (any_of HT_.out (by kernel_rfl)) (fun _ _ _ h => h) (Or.inl ⟨by rfl, ?_⟩) ?_ ?_
  rotate_left
  · intro w'
    go_simp
    with_reducible rfl
  rotate_left
  · simp only [Act.put, List.setIfInBounds_toArray, List.set_cons_zero, List.set_cons_succ, i64_w, i32_w]
    rfl
  refine take_ (i := 2) (N := some 91) (v := ?_) (a' := ?_) #[true, true, true, false, false, false, false, false, false, false] rfl rfl (take_ofW HT_.out HW_.out (by kernel_rfl)) (fun _ _ _ h => h) (Or.inl ⟨by rfl, ?_⟩) hHeld ?_ ?_
  rotate_left
  · rintro w' s0
    go_simp
    with_reducible rfl
  rotate_left
  · simp only [Act.put, List.setIfInBounds_toArray, List.set_cons_zero, List.set_cons_succ, i64_w, i32_w]
    rfl
  refine pure_ (i := 4) (N := some 93) (v := ?_) (a' := ?_) #[true, true, true, false, true, false, false, false, false, false] rfl rfl (any_of HT_.out (by kernel_rfl)) (fun _ _ _ h => h) (Or.inl ⟨by rfl, ?_⟩) ?_ ?_
  rotate_left
  · intro w'
    go_simp
    with_reducible rfl
  rotate_left
  · simp only [Act.put, List.setIfInBounds_toArray, List.set_cons_zero, List.set_cons_succ, i64_w, i32_w]
    rfl
  refine pure_ (i := 5) (N := some 94) (v := ?_) (a' := ?_) #[true, true, true, false, true, true, false, false, false, false] rfl rfl (any_of HT_.out (by kernel_rfl)) (fun _ _ _ h => h) (Or.inl ⟨by rfl, ?_⟩) ?_ ?_
  rotate_left
  · intro w'
    go_simp
    with_reducible rfl
  rotate_left
  · simp only [Act.put, List.setIfInBounds_toArray, List.set_cons_zero, List.set_cons_succ, i64_w, i32_w]
    rfl
  refine take_ (i := 6) (N := some 95) (v := ?_) (a' := ?_) #[true, true, true, false, true, true, true, false, false, false] rfl rfl (take_ofW HT_.out HW_.out (by kernel_rfl)) (fun _ _ _ h => h) (Or.inl ⟨by rfl, ?_⟩) hHeld ?_ ?_
  rotate_left
  · rintro w' s0
    go_simp
    with_reducible rfl
  rotate_left
  · simp only [Act.put, List.setIfInBounds_toArray, List.set_cons_zero, List.set_cons_succ, i64_w, i32_w]
    rfl
  refine one_ (i := 3) (N := some 92) #[true, true, true, true, true, true, true, false, false, false] rfl rfl (one_of HT_.out (by kernel_rfl)) (by decide) (fun K hK => ?_)
  refine goes_ Tryd.func16 (by kernel_rfl) rfl #[.pointer (some ⟨p, 0, none⟩), .slice A6 rs.length c6] (by rfl) rfl rfl (by (try simp only [List.map_toArray, List.map_cons, List.map_nil]); first | done | rfl) ?_
  with_reducible refine (sweepA_calls HS1.out.pr.a A6 c6 rs (HS1.out.roots HR.out) HRN.out).mono ?_
  rintro e w3 ⟨ms, hdfs, rfl, hA⟩
  obtain ⟨vc2, vf2, X2, hs2⟩ := HS1.out.pr.arena hA
  have HF := Aside0.mk hdfs
  have HS2 := Aside0.mk (HS1.out.trans hs2)
  have hbox2 := (hs2.same g (.inr rfl)).trans HN1.out
  have HG2 := Aside0.mk (hs2.sub g (.inr rfl))
  have HN2 := Aside0.mk hbox2
  have hc6 := blk_cell hbox2 6
  simp at hc6
  clear hdfs hA hs2 hbox2
  refine ⟨_, rfl, ?_⟩
  refine hK.out _ _ hc6 (fun hHeld => ?_)
  clear hc6
  clear hK K
  refine norm_ (a' := ?_) ?_ ?_
  rotate_left
  · show Act.put _ (some 92) _ = _
    simp only [Act.put, List.setIfInBounds_toArray, List.set_cons_zero, List.set_cons_succ, i64_w, i32_w]
    rfl
  refine one_ (i := 7) (N := some 96) #[true, true, true, true, true, true, true, true, false, false] rfl rfl (one_of HT_.out (by kernel_rfl)) (by decide) (fun K hK => ?_)
  refine goes_ Tryd.func41 (by kernel_rfl) rfl #[.pointer (some ⟨q, 0, none⟩), .slice A6 rs.length c6] (by rfl) rfl rfl (by (try simp only [List.map_toArray, List.map_cons, List.map_nil]); first | done | rfl) ?_
  with_reducible refine (rsweep_calls HS2.out.pr.r A6 c6 rs (HS2.out.roots HR.out) HRN.out).mono ?_
  rintro e w4 ⟨ms', hdfs, rfl, hA⟩
  obtain rfl := HF.out.same hdfs
  obtain ⟨vl3, X3, hs3⟩ := HS2.out.pr.ref hA
  have HS3 := Aside0.mk (HS2.out.trans hs3)
  have hbox3 := (hs3.same g HG2.out).trans HN2.out
  have hc6 := blk_cell hbox3 6
  simp at hc6
  clear hdfs hA hs3 hbox3
  refine ⟨_, rfl, ?_⟩
  refine hK.out _ _ hc6 (fun hHeld => ?_)
  clear hc6
  clear hK K
  refine norm_ (a' := ?_) ?_ ?_
  rotate_left
  · show Act.put _ (some 96) _ = _
    simp only [Act.put, List.setIfInBounds_toArray, List.set_cons_zero, List.set_cons_succ, i64_w, i32_w]
    rfl
  refine pure_ (i := 8) (N := some 97) (v := ?_) (a' := ?_) #[true, true, true, true, true, true, true, true, true, false] rfl rfl (any_of HT_.out (by kernel_rfl)) (fun _ _ _ h => h) (Or.inl ⟨by rfl, ?_⟩) ?_ ?_
  rotate_left
  · intro w'
    go_simp
    with_reducible rfl
  rotate_left
  · simp only [Act.put, List.setIfInBounds_toArray, List.set_cons_zero, List.set_cons_succ, i64_w, i32_w]
    rfl
  refine pure_ (i := 9) (N := some 6) (v := ?_) (a' := ?_) #[true, true, true, true, true, true, true, true, true, true] rfl rfl (any_of HT_.out (by kernel_rfl)) (fun _ _ _ h => h) (Or.inl ⟨by rfl, ?_⟩) ?_ ?_
  rotate_left
  · intro w'
    go_simp
    with_reducible rfl
  rotate_left
  · simp only [Act.put, List.setIfInBounds_toArray, List.set_cons_zero, List.set_cons_succ, i64_w, i32_w]
    rfl
  refine done_ (done_of HT_.out (by kernel_rfl)) ?_
  go_wp2_with fail
  go_ret
  exact ⟨by simp, _, _, _, _, _, HS3.out, HCS.out.sweep _ _⟩
end Go.Proofs.YtdeneoknjeegbaaDoor.P
end
section
set_option linter.unusedVariables false
set_option linter.unusedSimpArgs false
namespace Go.Proofs.YtdeneoknjeegbaaDoor.P
open Go.RowKit Go.Proofs.YtdeneoknjeegbaaDoorW.PrintWords Go.Proofs.YtdeneoknjeegbaaDoorW.PrintLast Go.Proofs.YtdeneoknjeegbaaDoorW.PrintMore
set_option maxHeartbeats 8000000 in
set_option maxRecDepth 100000 in
theorem same_eq {w : World} (x0 : Bool) (l1 l2 l5 l9 : List Int) (x3 x4 x6 x7 x8 : Int) (A1 A2 A5 A9 B1 B2 B5 B9 : Option Addr) (c1 c2 c5 c9 d1 d2 d5 d9 : Nat) (hA1 : Kd.C (Kd.int .u8) w A1 l1.length l1) (hA2 : Kd.C (Kd.int .u8) w A2 l2.length l2) (hA5 : Kd.C (Kd.int .u8) w A5 l5.length l5) (hA9 : Kd.C (Kd.int .u8) w A9 l9.length l9) (hB1 : Kd.C (Kd.int .u8) w B1 l1.length l1) (hB2 : Kd.C (Kd.int .u8) w B2 l2.length l2) (hB5 : Kd.C (Kd.int .u8) w B5 l5.length l5) (hB9 : Kd.C (Kd.int .u8) w B9 l9.length l9) :
    Calls Tryd.prog 18 #[.agg #[.bool x0, .slice A1 l1.length c1, .slice A2 l2.length c2, .int .i64 x3, .int .i64 x4, .slice A5 l5.length c5, .int .i64 x6, .int .i64 x7, .int .i64 x8, .slice A9 l9.length c9], .agg #[.bool x0, .slice B1 l1.length d1, .slice B2 l2.length d2, .int .i64 x3, .int .i64 x4, .slice B5 l5.length d5, .int .i64 x6, .int .i64 x7, .int .i64 x8, .slice B9 l9.length d9]] w fun e w' => e = .returned (.bool true) ∧ Below w.heap.size w w' := by
  have RA1 := Aside0.mk hA1
  have RA2 := Aside0.mk hA2
  have RA5 := Aside0.mk hA5
  have RA9 := Aside0.mk hA9
  have RB1 := Aside0.mk hB1
  have RB2 := Aside0.mk hB2
  have RB5 := Aside0.mk hB5
  have RB9 := Aside0.mk hB9
  clear hA1 hA2 hA5 hA9 hB1 hB2 hB5 hB9
  go_enter Tryd.func18, Tryd.ntmps18
  go_wp2_with (first | ((with_reducible refine gate_dst (N := 2) rfl ?_); go_must (refine box_event ?hg (N := 2) ?hd (cs := #[.bool x0, .slice A1 l1.length c1, .slice A2 l2.length c2, .int .i64 x3, .int .i64 x4, .slice A5 l5.length c5, .int .i64 x6, .int .i64 x7, .int .i64 x8, .slice A9 l9.length c9]) (t := 39) ?hr ?_; (case hd => rfl); (case hg => rfl); (case hr => first | (go_simp; done) | (go_simp; rfl)); intro g1 hg w1 hbox hb; have HW1 := Aside0.mk hb; have HN1 := Aside0.mk hbox; clear hg hb hbox)) | ((with_reducible refine gate_dst (N := 3) rfl ?_); go_must (refine box_event ?hg (N := 3) ?hd (cs := #[.bool x0, .slice B1 l1.length d1, .slice B2 l2.length d2, .int .i64 x3, .int .i64 x4, .slice B5 l5.length d5, .int .i64 x6, .int .i64 x7, .int .i64 x8, .slice B9 l9.length d9]) (t := 39) ?hr ?_; (case hd => rfl); (case hg => rfl); (case hr => first | (go_simp; done) | (go_simp; rfl)); intro g2 hg w2 hbox hb; have HW2 := Aside0.mk (below_step HW1.out hb); have HM1 := Aside0.mk (blk_below HN1.out hb); have HM2 := Aside0.mk hbox; clear hg hb hbox HN1; have k10 := blk_cell HM1.out 0; simp at k10; have f10 := blk_frozen HM1.out 0; have k11 := blk_cell HM1.out 1; simp at k11; have f11 := blk_frozen HM1.out 1; have k12 := blk_cell HM1.out 2; simp at k12; have f12 := blk_frozen HM1.out 2; have k13 := blk_cell HM1.out 3; simp at k13; have f13 := blk_frozen HM1.out 3; have k14 := blk_cell HM1.out 4; simp at k14; have f14 := blk_frozen HM1.out 4; have k15 := blk_cell HM1.out 5; simp at k15; have f15 := blk_frozen HM1.out 5; have k16 := blk_cell HM1.out 6; simp at k16; have f16 := blk_frozen HM1.out 6; have k17 := blk_cell HM1.out 7; simp at k17; have f17 := blk_frozen HM1.out 7; have k18 := blk_cell HM1.out 8; simp at k18; have f18 := blk_frozen HM1.out 8; have k19 := blk_cell HM1.out 9; simp at k19; have f19 := blk_frozen HM1.out 9; have k20 := blk_cell HM2.out 0; simp at k20; have f20 := blk_frozen HM2.out 0; have k21 := blk_cell HM2.out 1; simp at k21; have f21 := blk_frozen HM2.out 1; have k22 := blk_cell HM2.out 2; simp at k22; have f22 := blk_frozen HM2.out 2; have k23 := blk_cell HM2.out 3; simp at k23; have f23 := blk_frozen HM2.out 3; have k24 := blk_cell HM2.out 4; simp at k24; have f24 := blk_frozen HM2.out 4; have k25 := blk_cell HM2.out 5; simp at k25; have f25 := blk_frozen HM2.out 5; have k26 := blk_cell HM2.out 6; simp at k26; have f26 := blk_frozen HM2.out 6; have k27 := blk_cell HM2.out 7; simp at k27; have f27 := blk_frozen HM2.out 7; have k28 := blk_cell HM2.out 8; simp at k28; have f28 := blk_frozen HM2.out 8; have k29 := blk_cell HM2.out 9; simp at k29; have f29 := blk_frozen HM2.out 9; have vA1 := Kd.C_string (P := Tryd.prog) (A := A1) (c := c1) Tryd.underlying31 Tryd.underlying5 Tryd.underlying9 (Kd.C_below RA1.out HW2.out); have vA2 := Kd.C_string (P := Tryd.prog) (A := A2) (c := c2) Tryd.underlying31 Tryd.underlying5 Tryd.underlying9 (Kd.C_below RA2.out HW2.out); have vA5 := Kd.C_string (P := Tryd.prog) (A := A5) (c := c5) Tryd.underlying31 Tryd.underlying5 Tryd.underlying9 (Kd.C_below RA5.out HW2.out); have vA9 := Kd.C_string (P := Tryd.prog) (A := A9) (c := c9) Tryd.underlying31 Tryd.underlying5 Tryd.underlying9 (Kd.C_below RA9.out HW2.out); have vB1 := Kd.C_string (P := Tryd.prog) (A := B1) (c := d1) Tryd.underlying31 Tryd.underlying5 Tryd.underlying9 (Kd.C_below RB1.out HW2.out); have vB2 := Kd.C_string (P := Tryd.prog) (A := B2) (c := d2) Tryd.underlying31 Tryd.underlying5 Tryd.underlying9 (Kd.C_below RB2.out HW2.out); have vB5 := Kd.C_string (P := Tryd.prog) (A := B5) (c := d5) Tryd.underlying31 Tryd.underlying5 Tryd.underlying9 (Kd.C_below RB5.out HW2.out); have vB9 := Kd.C_string (P := Tryd.prog) (A := B9) (c := d9) Tryd.underlying31 Tryd.underlying5 Tryd.underlying9 (Kd.C_below RB9.out HW2.out))))
  go_ret
  exact ⟨rfl, HW2.out⟩
end Go.Proofs.YtdeneoknjeegbaaDoor.P
end
section
namespace Go.Proofs.YtdeneoknjeegbaaDoor.P
open Go.RowKit Go.Proofs.YtdeneoknjeegbaaDoorW.PrintWords Go.Proofs.YtdeneoknjeegbaaDoorW.PrintLast Go.Proofs.YtdeneoknjeegbaaDoorW.PrintMore
attribute [local go_sem] max2_int min2_int max_two min_two max_three min_three max_four min_four
set_option linter.unusedVariables false
set_option linter.unusedSimpArgs false
def bytes_Equal.f (l0 : List Int) (l1 : List Int) : Option (Bool) := some ((strOfNums l0).toList == (strOfNums l1).toList)
set_option maxHeartbeats 8000000 in
set_option maxRecDepth 100000 in
theorem bytes_Equal.calls (A0 : Option Addr) (c0 : Nat) (l0 : List Int) (A1 : Option Addr) (c1 : Nat) (l1 : List Int) (r : Bool) (w : World) (hr0 : Kd.C (Kd.int .u8) w A0 l0.length l0) (hc0 : l0.length ≤ c0) (hr1 : Kd.C (Kd.int .u8) w A1 l1.length l1) (hc1 : l1.length ≤ c1) (h : bytes_Equal.f l0 l1 = some r) :
    Calls Tryd.prog 29 #[.slice A0 l0.length c0, .slice A1 l1.length c1] w fun e w' => e = .returned (.bool r) ∧ Drawn0 w w' := by
  have HR0 := Aside0.mk hr0
  have HC0 := Aside0.mk hc0
  clear hr0 hc0
  have HR1 := Aside0.mk hr1
  have HC1 := Aside0.mk hc1
  clear hr1 hc1
  have H : (some ((strOfNums l0).toList == (strOfNums l1).toList)) = some r := h
  clear h
  obtain rfl := Option.some.inj H
  have hcv3 := Kd.C_string (P := Tryd.prog) (A := A0) (c := c0) Tryd.underlying31 Tryd.underlying5 Tryd.underlying9 HR0.out
  have hcv4 := Kd.C_string (P := Tryd.prog) (A := A1) (c := c1) Tryd.underlying31 Tryd.underlying5 Tryd.underlying9 HR1.out
  go_enter Tryd.func29, Tryd.ntmps29
  go_wp2
  go_ret
  exact ⟨by first | rfl | (simp; done) | (simp [*]; done), by repeat (first | exact Drawn0.refl _ | apply Drawn0.step)⟩
end Go.Proofs.YtdeneoknjeegbaaDoor.P
end
section
set_option linter.unusedVariables false
set_option linter.unusedSimpArgs false
namespace Go.Proofs.YtdeneoknjeegbaaDoor.P
open Go.RowKit Go.Proofs.YtdeneoknjeegbaaDoor.Pure Go.Proofs.YtdeneoknjeegbaaDoorW.PrintWords Go.Proofs.YtdeneoknjeegbaaDoorW.PrintLast Go.Proofs.YtdeneoknjeegbaaDoorW.PrintMore
theorem op4 (op : Int) : wrap64 ((IntKind.u64.wrap op).tmod 4) = 0 ∨ wrap64 ((IntKind.u64.wrap op).tmod 4) = 1 ∨ wrap64 ((IntKind.u64.wrap op).tmod 4) = 2 ∨ wrap64 ((IntKind.u64.wrap op).tmod 4) = 3 := by
  have h0 : 0 ≤ IntKind.u64.wrap op := by rw [IntKind.wrap_u64]; omega
  rw [Int.tmod_eq_emod_of_nonneg h0]
  obtain ⟨x, hx⟩ : ∃ x, x = IntKind.u64.wrap op % 4 := ⟨_, rfl⟩
  rw [← hx, wrap64_id _ (by omega)]
  omega
theorem does_calls {w w0 : World} {base p q : Nat} {size room : Int} {vc vf vl : Value} {X : Nat → Prop} {cs : Cs} (h : Pr w base p q size room vc vf vl X cs cs) (hcs : CsOk cs) (op a b d : Int) (A4 A5 A6 : Option Addr) (c4 c5 c6 : Nat) (x y rs : List Int)
    (bx : BX w X (.slice A4 x.length c4) x) (by_ : BX w X (.slice A5 y.length c5) y) (ox : BytesOk x) (oy : BytesOk y) (hr : Kd.V (Kd.int .i64) 3 w 0 X (.slice A6 rs.length c6) rs) (hrn : rs.length ≤ 4294967296) (hd : d ≤ 9223372036854775807) (hbase : base = w0.heap.size) (hGS : GlobS w0) (hW : Below base w0 w) :
    Calls Tryd.prog 11 #[.agg #[.int .i64 op, .int .i64 a, .int .i64 b, .int .i64 d, .slice A4 x.length c4, .slice A5 y.length c5, .slice A6 rs.length c6], .pointer (some ⟨p, 0, none⟩), .pointer (some ⟨q, 0, none⟩)] w
      fun e w' => e = .returned (.bool true) ∧ DoP w w' base p q size room X := by
  rcases op4 op with ho | ho | ho | ho
  · exact does_leaf0 h hcs op a b d A4 A5 A6 c4 c5 c6 x y rs bx by_ ox oy hr hrn hd hbase hGS hW ho
  · exact does_leaf1 h hcs op a b d A4 A5 A6 c4 c5 c6 x y rs bx by_ ox oy hr hrn hd hbase hGS hW ho
  · exact does_fork h hcs op a b d A4 A5 A6 c4 c5 c6 x y rs bx by_ ox oy hr hrn hd hbase hGS hW ho
  · exact does_sweep h hcs op a b d A4 A5 A6 c4 c5 c6 x y rs bx by_ ox oy hr hrn hd hbase hGS hW ho
theorem NodeV.all {w' : World} {Y : Nat → Prop} {o : Option Nd} {e : Ending} (h : NodeV w' Y o e) : ∃ n b, n = o.getD z39 ∧ b = o.isSome ∧ ∃ (A1 A2 A5 A9 : Option Addr) (c1 c2 c5 c9 : Nat), e = .returned (.tuple #[.agg #[.bool n.f0, .slice A1 n.f1.length c1, .slice A2 n.f2.length c2, .int .i64 n.f3, .int .i64 n.f4, .slice A5 n.f5.length c5, .int .i64 n.f6, .int .i64 n.f7, .int .i64 n.f8, .slice A9 n.f9.length c9], .bool b]) ∧ BX w' Y (.slice A1 n.f1.length c1) n.f1 ∧ BX w' Y (.slice A2 n.f2.length c2) n.f2 ∧ BX w' Y (.slice A5 n.f5.length c5) n.f5 ∧ BX w' Y (.slice A9 n.f9.length c9) n.f9 := by
  cases o with
  | none => exact ⟨_, _, rfl, rfl, none, none, none, none, 0, 0, 0, 0, h, Kd.V_nil _ _ _ _ _, Kd.V_nil _ _ _ _ _, Kd.V_nil _ _ _ _ _, Kd.V_nil _ _ _ _ _⟩
  | some n => exact ⟨n, true, rfl, rfl, h⟩
theorem equal_same (l : List Int) : bytes_Equal.f l l = some true := by
  unfold bytes_Equal.f
  rw [beq_self_eq_true]
set_option maxHeartbeats 8000000 in
set_option maxRecDepth 100000 in
theorem same_calls {w w0 : World} {base p q : Nat} {size room : Int} {vc vf vl : Value} {X : Nat → Prop} {cs : Cs} (h : Pr w base p q size room vc vf vl X cs cs) (hcs : CsOk cs) (hbase : base = w0.heap.size) (hGS : GlobS w0) (hW : Below base w0 w) :
    Calls Tryd.prog 12 #[.pointer (some ⟨p, 0, none⟩), .pointer (some ⟨q, 0, none⟩)] w fun e w' => e = .returned (.bool true) ∧ Below w.heap.size w w' := by
  have HH := Aside0.mk h
  have HCS := Aside0.mk hcs
  have HG := Aside0.mk (show ∀ W, Below w.heap.size w W → GlobS W from fun W hb => GlobS.of hGS (by subst hbase; exact hW.trans (hb.mono h.a.base_le.1)))
  obtain ⟨rows, hv⟩ := h.r.mem
  obtain ⟨Al, cl, hvl⟩ := Kd.R_slice hv.cells
  obtain ⟨n0, hn0⟩ : ∃ n0, n0 = rows.length := ⟨_, rfl⟩
  rw [← hn0] at hvl
  have hqb := h.r.qblk
  rw [hvl] at hqb
  have HQ := Aside0.mk hqb
  have HN0 := Aside0.mk (show n0 ≤ 4194304 from by have := hv.len; have := h.r.hl; have := h.r.hr; omega)
  clear h hcs hbase hGS hW hv hn0 hvl hqb rows
  go_enter Tryd.func12, Tryd.ntmps12
  go_wp2_with fail
  go_loopw [5] (fun v5 wr => ∃ i : Int, -1 ≤ i ∧ i ≤ (n0 : Int) + 1 ∧ v5 = .int .i64 i ∧ Aside0 (Below w.heap.size w wr)) (fun v5 _ => (n0 + 1 - intOf v5).toNat)
  case atStart => exact ⟨-1, by omega, by omega, rfl, ⟨Below.refl _ _⟩⟩
  case round =>
    obtain ⟨i, hi, hi2, rfl, HB⟩ := hrel
    have HI := Aside0.mk (And.intro hi hi2)
    have hq := HQ.out.below HB.out
    obtain ⟨q0, q1, q2⟩ := hq.cells
    clear hq
    by_cases hle : i ≤ (n0 : Int)
    · have hd : decide (i ≤ (n0 : Int)) = true := decide_eq_true hle
      have HLE := Aside0.mk hle
      clear hi hi2 hle
      go_wp2_with fail
      refine (nodeA_calls (HH.out.below HB.out).a i (fun n hn => (HCS.out.at i n hn).1)).mono ?_
      rintro e w2 ⟨hN, hb⟩
      obtain ⟨n, b, hn, hb_, A1, A2, A5, A9, c1, c2, c5, c9, rfl, x1, x2, x5, x9⟩ := hN.all
      have HNB := Aside0.mk (And.intro hn hb_)
      have HV1 := Aside0.mk x1
      have HV2 := Aside0.mk x2
      have HV5 := Aside0.mk x5
      have HV9 := Aside0.mk x9
      have HB2 := Aside0.mk (below_step HB.out hb)
      clear hN hn hb_ x1 x2 x5 x9 hb
      go_wp2_with fail
      obtain ⟨w3, hw3⟩ : ∃ w3, w3 = w2.alloc (.cells #[.bool n.f0, .slice A1 n.f1.length c1, .slice A2 n.f2.length c2, .int .i64 n.f3, .int .i64 n.f4, .slice A5 n.f5.length c5, .int .i64 n.f6, .int .i64 n.f7, .int .i64 n.f8, .slice A9 n.f9.length c9] 39) := ⟨_, rfl⟩
      rw [← hw3]
      have HA3 := Aside0.mk (show NdB w3 w2.heap.size [.bool n.f0, .slice A1 n.f1.length c1, .slice A2 n.f2.length c2, .int .i64 n.f3, .int .i64 n.f4, .slice A5 n.f5.length c5, .int .i64 n.f6, .int .i64 n.f7, .int .i64 n.f8, .slice A9 n.f9.length c9] from by rw [hw3]; exact heap_alloc_new w2 _)
      have HB23 := Aside0.mk (show Below w2.heap.size w2 w3 from by rw [hw3]; exact below_alloc (Below.refl _ _) _)
      have HB3 := Aside0.mk (below_step HB2.out HB23.out)
      clear hw3
      obtain ⟨g1, hg1⟩ : ∃ g1, g1 = w2.heap.size := ⟨_, rfl⟩
      rw [← hg1]
      rw [← hg1] at HA3
      clear hg1
      refine (rnode_calls (HH.out.below HB3.out).r i (fun n hn => (HCS.out.at i n hn).1)).mono ?_
      rintro e w4 ⟨hN, hb⟩
      obtain ⟨m, b', hn, hb_, B1, B2, B5, B9, d1, d2, d5, d9, rfl, x1, x2, x5, x9⟩ := hN.all
      obtain rfl : m = n := hn.trans HNB.out.1.symm
      obtain rfl : b' = b := hb_.trans HNB.out.2.symm
      have HU1 := Aside0.mk x1
      have HU2 := Aside0.mk x2
      have HU5 := Aside0.mk x5
      have HU9 := Aside0.mk x9
      have HB34 := Aside0.mk hb
      have HB4 := Aside0.mk (below_step HB3.out hb)
      have HA4 := Aside0.mk (HA3.out.below hb)
      clear hN hn hb_ x1 x2 x5 x9 hb
      have hbb : (b' != b') = false := by cases b' <;> rfl
      obtain ⟨s0, s1, s2, s3, s4, s5, s6, s7, s8, s9⟩ := (HA4.out.below (below_alloc (Below.refl _ _) (.cells #[.bool m.f0, .slice B1 m.f1.length d1, .slice B2 m.f2.length d2, .int .i64 m.f3, .int .i64 m.f4, .slice B5 m.f5.length d5, .int .i64 m.f6, .int .i64 m.f7, .int .i64 m.f8, .slice B9 m.f9.length d9] 39))).cells
      obtain ⟨t0, t1, t2, t3, t4, t5, t6, t7, t8, t9⟩ := NdB.cells (show NdB (w4.alloc (.cells #[.bool m.f0, .slice B1 m.f1.length d1, .slice B2 m.f2.length d2, .int .i64 m.f3, .int .i64 m.f4, .slice B5 m.f5.length d5, .int .i64 m.f6, .int .i64 m.f7, .int .i64 m.f8, .slice B9 m.f9.length d9] 39)) w4.heap.size [.bool m.f0, .slice B1 m.f1.length d1, .slice B2 m.f2.length d2, .int .i64 m.f3, .int .i64 m.f4, .slice B5 m.f5.length d5, .int .i64 m.f6, .int .i64 m.f7, .int .i64 m.f8, .slice B9 m.f9.length d9] from heap_alloc_new w4 _)
      go_wp2_with fail
      clear s0 s1 s2 s3 s4 s5 s6 s7 s8 s9 t0 t1 t2 t3 t4 t5 t6 t7 t8 t9
      obtain ⟨w5, hw5⟩ : ∃ w5, w5 = w4.alloc (.cells #[.bool m.f0, .slice B1 m.f1.length d1, .slice B2 m.f2.length d2, .int .i64 m.f3, .int .i64 m.f4, .slice B5 m.f5.length d5, .int .i64 m.f6, .int .i64 m.f7, .int .i64 m.f8, .slice B9 m.f9.length d9] 39) := ⟨_, rfl⟩
      rw [← hw5]
      have HB45 := Aside0.mk (show Below w4.heap.size w4 w5 from by rw [hw5]; exact below_alloc (Below.refl _ _) _)
      have HB5 := Aside0.mk (below_step HB4.out HB45.out)
      clear hw5
      have HB25 := Aside0.mk (below_step (below_step HB23.out HB34.out) HB45.out)
      refine (same_eq m.f0 m.f1 m.f2 m.f5 m.f9 m.f3 m.f4 m.f6 m.f7 m.f8 A1 A2 A5 A9 B1 B2 B5 B9 c1 c2 c5 c9 d1 d2 d5 d9 (Kd.V_reads' (Kd.V_below HV1.out HB25.out)).2.2 (Kd.V_reads' (Kd.V_below HV2.out HB25.out)).2.2 (Kd.V_reads' (Kd.V_below HV5.out HB25.out)).2.2 (Kd.V_reads' (Kd.V_below HV9.out HB25.out)).2.2 (Kd.V_reads' (Kd.V_below HU1.out HB45.out)).2.2 (Kd.V_reads' (Kd.V_below HU2.out HB45.out)).2.2 (Kd.V_reads' (Kd.V_below HU5.out HB45.out)).2.2 (Kd.V_reads' (Kd.V_below HU9.out HB45.out)).2.2).mono ?_
      rintro e w6 ⟨rfl, hb⟩
      have HB6 := Aside0.mk (below_step HB5.out hb)
      clear hb
      go_wp2_with fail
      refine (hashA_calls (HH.out.below HB6.out).a i (fun n hn => (HCS.out.at i n hn).1.2.2.2) (HG.out _ HB6.out)).mono ?_
      rintro e w7 ⟨⟨v, rfl, hv⟩, hb⟩
      obtain ⟨D1, e1, rfl⟩ := Kd.V_slice hv
      have HV7 := Aside0.mk hv
      have HB7 := Aside0.mk (below_step HB6.out hb)
      clear hv hb
      go_wp2_with fail
      refine (rhashA_calls (HH.out.below HB7.out).r i (fun n hn => (HCS.out.at i n hn).1.2.2.2)).mono ?_
      rintro e w8 ⟨⟨v, rfl, hv⟩, hb⟩
      obtain ⟨D2, e2, rfl⟩ := Kd.V_slice hv
      have HV8 := Aside0.mk hv
      have HB78 := Aside0.mk hb
      have HB8 := Aside0.mk (below_step HB7.out hb)
      clear hv hb
      obtain ⟨lh, hlh⟩ : ∃ lh, lh = hashAt size cs i := ⟨_, rfl⟩
      rw [← hlh]
      rw [← hlh] at HV7 HV8
      clear hlh
      go_wp2_with fail
      refine (bytes_Equal.calls D1 e1 lh D2 e2 lh true w8 (Kd.V_reads' (Kd.V_below HV7.out HB78.out)).2.2 (Kd.V_reads' HV7.out).2.1 (Kd.V_reads' HV8.out).2.2 (Kd.V_reads' HV8.out).2.1 (equal_same lh)).mono ?_
      rintro e w9 ⟨rfl, hb⟩
      have HB9 := Aside0.mk (below_step HB8.out hb.below)
      clear hb
      go_wp2_with fail
      have hi := HI.out
      have hle := HLE.out
      have hn0 := HN0.out
      have hwi := wrap64_id (i + 1) (by omega)
      go_roundw
      case measure => simp only [intOf, hwi]; omega
      case rel => exact ⟨i + 1, by omega, by omega, by rw [hwi], HB9⟩
    · have hd : decide (i ≤ (n0 : Int)) = false := decide_eq_false hle
      have HA0 := Aside0.mk (HH.out.below HB.out)
      have HAD := Aside0.mk (show ∀ m, Pr (wr.drewN m) base p q size room vc vf vl X cs cs from fun m => HA0.out.below (pw_below_drewN (Below.refl _ _) m))
      have HSZ := Aside0.mk (show size ≠ 0 from by have := HA0.out.a.hs; omega)
      have hws : wrap64 (room - (usedN cs : Int)) = room - (usedN cs : Int) := wrap64_id _ (by have := usedN_le cs; have := HA0.out.a.hl; have := HA0.out.a.hr; omega)
      clear hi hi2 hle HI
      go_wp2_with fail
      go_quiet ((first | (go_at_call 15; (first | with_reducible exact drawn0_quiet (usedA_calls HA0.out.a) | with_reducible exact drawn2_quiet (usedA_calls (HAD.out _).a) | with_reducible exact drawn1_quiet (usedA_calls (HAD.out _).a))) | (go_at_call 23; (first | with_reducible exact still0 (rused_calls HA0.out.r) | with_reducible exact still2 (rused_calls (HAD.out _).r) | with_reducible exact still1 (rused_calls (HAD.out _).r))) | (go_at_call 19; (first | with_reducible exact drawn0_quiet (roomA_calls HA0.out.a) | with_reducible exact drawn2_quiet (roomA_calls (HAD.out _).a) | with_reducible exact drawn1_quiet (roomA_calls (HAD.out _).a))) | (go_at_call 43; (first | with_reducible exact still0 (size_calls (blkA HA0.out.a) HSZ.out) | with_reducible exact still2 (size_calls (blkA (HAD.out _).a) HSZ.out) | with_reducible exact still1 (size_calls (blkA (HAD.out _).a) HSZ.out)))))
      go_wp2_with fail
      go_ret
      exact ⟨by simp, below_step HB.out (pw_below_drewN (Below.refl _ _) _)⟩
end Go.Proofs.YtdeneoknjeegbaaDoor.P
end
