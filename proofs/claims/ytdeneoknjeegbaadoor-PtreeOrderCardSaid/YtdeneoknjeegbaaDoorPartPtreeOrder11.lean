/- Lemmas of this claim, part 11. -/
import Derived.Test.YtdeneoknjeegbaaDoorPartPtreeOrder10
set_option linter.unusedVariables false
set_option linter.unusedSimpArgs false
section
namespace Go.Proofs.YtdeneoknjeegbaaDoor.P
open Go Go.RowKit YtdeneoknjeegbaaDoor.Pure YtdeneoknjeegbaaDoorW.PrintWords YtdeneoknjeegbaaDoorW.PrintLast YtdeneoknjeegbaaDoorW.PrintMore
set_option maxRecDepth 100000 in
theorem walk_none {w:World} {base p:Nat} {size room:Int} {vc vf:Value} {X:Nat->Prop} {cs:Cs} (h:ArenaM w base p size room vc vf X cs) (i above:Int) (hi:nodeAt cs i=none) (fv:Value):
 Calls Tryd.prog 66 #[.pointer (some ⟨p,0,none⟩),.int .i64 i,.int .i64 above,fv] w fun e w'=>e = .returned (.tuple #[])/\Below w.heap.size w w':=by
 have HA:=z_ h
 have HI:=z_ hi
 clear h hi
 go_enter Tryd.func66,Tryd.ntmps66
 go_wp2_with fail
 refine (nodeA_calls HA.out i (fun n hn=>by rw [HI.out] at hn;cases hn)).mono ?_
 rintro e w1 ⟨hN,hb⟩
 rw [HI.out] at hN
 obtain rfl:e = .returned (.tuple #[.agg zeroR.toArray,.bool false]):=hN
 have HB:=z_ hb
 clear hb
 unfold zeroR
 go_wp2_with fail
 refine bodyPost_ret (results_none rfl _ _ _) rfl ?_
 exact ⟨rfl,below_alloc HB.out _⟩
def walkS {β:Type} (step:β->Nd->Nat->β):β->PT->Nat->β
 | b,.leaf n,a=>step b n a
 | b,.fork n l r,a=>walkS step (walkS step (step b n a) l (a+1)) r (a+1)
structure SeeP {β:Type} (fn:FuncId) (g:Nat) (base p:Nat) (size room:Int) (vc vf:Value) (X:Nat->Prop) (cs:Cs) (I:β->(Nat->Prop)->World->Prop) (step:β->Nd->Nat->β):Prop where
 arena : ∀b O W,I b O W->ArenaM W base p size room vc vf X cs
 lt : ∀b O W k,I b O W->O k->k<W.heap.size
 sep : ∀b O W k,I b O W->X k->¬O k
 below : ∀b O W W',I b O W->Below W.heap.size W W'->I b O W'
 see : ∀b O W (n:Nd) (D1 D2 D5 D9:Option Addr) (d1 d2 d5 d9:Nat) (above:Nat),above<=100000->I b O W->BX W (fun k=>k<W.heap.size/\¬O k) (.slice D1 n.f1.length d1) n.f1->BX W (fun k=>k<W.heap.size/\¬O k) (.slice D2 n.f2.length d2) n.f2->
  Calls Tryd.prog fn #[.agg #[.bool n.f0,.slice D1 n.f1.length d1,.slice D2 n.f2.length d2,.int .i64 n.f3,.int .i64 n.f4,.slice D5 n.f5.length d5,.int .i64 n.f6,.int .i64 n.f7,.int .i64 n.f8,.slice D9 n.f9.length d9],.int .i64 (above:Int),.pointer (some ⟨g,0,none⟩)] W fun e W'=>e = .returned (.tuple #[])/\∃O',I (step b n above) O' W'/\Kept W W' O/\Grew W O O'
set_option maxHeartbeats 8000000 in
set_option maxRecDepth 100000 in
theorem walkD_calls {β:Type} {g base p:Nat} {size room:Int} {vc vf:Value} {X:Nat->Prop} {cs:Cs} {I:β->(Nat->Prop)->World->Prop} {step:β->Nd->Nat->β} (hP:SeeP 91 g base p size room vc vf X cs I step) (hcs:CsOk cs) (t:PT):
 ∀(i:Int) (above:Nat) (b:β) (O:Nat->Prop) (W:World),t.h+above<=100000->IsT cs i t->I b O W->
  Calls Tryd.prog 66 #[.pointer (some ⟨p,0,none⟩),.int .i64 i,.int .i64 (above:Int),.func (.func 91) #[] #[.pointer (some ⟨g,0,none⟩)]] W fun e W'=>e = .returned (.tuple #[])/\∃O',I (walkS step b t above) O' W'/\Kept W W' O/\Grew W O O':=by
 have HP:=z_ hP
 have HCS:=z_ hcs
 clear hP hcs
 induction t with
 | leaf n=>
   intro i above b O W hh hT hI
   have HT:=z_ hT
   have HI:=z_ hI
   have HH:=z_ hh
   have hf0:n.f0=true:=hT.2
   have HNA:=z_ (show nodeAt cs i=some n from hT.1)
   clear hT hI hh
   go_enter Tryd.func66,Tryd.ntmps66
   go_wp2_with fail
   refine (nodeA_calls (HP.out.arena _ _ _ HI.out) i (fun m hm=>(HCS.out.at i m hm).1)).mono ?_
   rintro e w1 ⟨hN,hb⟩
   rw [HNA.out] at hN
   obtain ⟨D1,D2,D5,D9,d1,d2,d5,d9,rfl,x1,x2,x5,x9⟩:=hN
   have HB1:=z_ hb
   have HLT:=z_ (show ∀k,O k->k<W.heap.size from fun k hk=>HP.out.lt _ _ _ k HI.out hk)
   have HX:=z_ (show BX w1 (fun k=>(X k\/W.heap.size<=k)/\k<w1.heap.size) (.slice D1 n.f1.length d1) n.f1/\BX w1 (fun k=>(X k\/W.heap.size<=k)/\k<w1.heap.size) (.slice D2 n.f2.length d2) n.f2 from ⟨Kd.V_bound x1,Kd.V_bound x2⟩)
   rw [hf0]
   clear x1 x2 x5 x9 hb
   obtain ⟨w2,hw2⟩ : ∃w2,w2=w1.alloc (.cells #[.bool true,.slice D1 n.f1.length d1,.slice D2 n.f2.length d2,.int .i64 n.f3,.int .i64 n.f4,.slice D5 n.f5.length d5,.int .i64 n.f6,.int .i64 n.f7,.int .i64 n.f8,.slice D9 n.f9.length d9] 39):=⟨_,rfl⟩
   have HN2:=z_ (show NdB w2 w1.heap.size [.bool true,.slice D1 n.f1.length d1,.slice D2 n.f2.length d2,.int .i64 n.f3,.int .i64 n.f4,.slice D5 n.f5.length d5,.int .i64 n.f6,.int .i64 n.f7,.int .i64 n.f8,.slice D9 n.f9.length d9] from by rw [hw2];exact heap_alloc_new w1 _)
   have HB2:=z_ (show Below w1.heap.size w1 w2 from by rw [hw2];exact below_alloc (Below.refl _ _) _)
   go_wp2_with fail
   rw [<-hw2]
   clear hw2
   obtain ⟨g1,hg1⟩ : ∃x,x=w1.heap.size:=⟨_,rfl⟩
   rw [<-hg1] at HN2
   rw [<-hg1]
   have HG1:=z_ hg1
   clear hg1
   have HI2:=z_ (HP.out.below _ _ _ _ HI.out (below_step HB1.out HB2.out))
   have HB:=z_ (below_step HB1.out HB2.out)
   have hsee:=HP.out.see b O w2 n D1 D2 D5 D9 d1 d2 d5 d9 above (by have:=HH.out;omega) HI2.out (Kd.V_mono (Kd.V_below HX.out.1 HB2.out) (fun k hk=>⟨by have:=HB2.out.size;omega,fun ho=>by have:=HLT.out k ho;rcases hk.1 with h|h;exact HP.out.sep _ _ _ k HI.out h ho;omega⟩)) (Kd.V_mono (Kd.V_below HX.out.2 HB2.out) (fun k hk=>⟨by have:=HB2.out.size;omega,fun ho=>by have:=HLT.out k ho;rcases hk.1 with h|h;exact HP.out.sep _ _ _ k HI.out h ho;omega⟩))
   rw [hf0] at hsee
   refine hsee.mono ?_
   rintro e w3 ⟨rfl,O1,hI3,hk3,hg3⟩
   have HI3:=z_ hI3
   have HK3:=z_ (And.intro hk3 hg3)
   have HGO:=z_ (show ∀Q:Nat->Prop,Grew w2 O Q->¬Q g1 from fun Q hQ ho=>by
    have h1:=HB1.out.size
    have h2:=HG1.out
    have h3:=blk_lt HN2.out
    rcases hQ g1 ho with h|h
    ·have:=HLT.out g1 h
     omega
    ·omega)
   have HN3:=z_ (show NdB w3 g1 [.bool true,.slice D1 n.f1.length d1,.slice D2 n.f2.length d2,.int .i64 n.f3,.int .i64 n.f4,.slice D5 n.f5.length d5,.int .i64 n.f6,.int .i64 n.f7,.int .i64 n.f8,.slice D9 n.f9.length d9] from (hk3.2 g1 (blk_lt HN2.out) (HGO.out O (Grew.refl _ _))).trans HN2.out)
   clear hsee hI3 hk3 hg3
   obtain ⟨m0,m1,m2,m3,m4,m5,m6,m7,m8,m9⟩:=HN3.out.cells
   go_wp2_with fail
   go_end0
   exact ⟨rfl,O1,HI3.out,⟨by have:=HB.out.size;have:=HK3.out.1.1;omega,fun k hk ho=>(HK3.out.1.2 k (by have:=HB.out.size;omega) ho).trans (HB.out.block k hk)⟩,fun k hk=>(HK3.out.2 k hk).imp (fun x=>x) (fun h=>by have:=HB.out.size;omega)⟩
 | fork n l r ihl ihr=>
   intro i above b O W hh hT hI
   have HT:=z_ hT
   have HI:=z_ hI
   have HH:=z_ hh
   have hf0:n.f0=false:=hT.2.1
   have HNA:=z_ (show nodeAt cs i=some n from hT.1)
   clear hT hI hh
   go_enter Tryd.func66,Tryd.ntmps66
   go_wp2_with fail
   refine (nodeA_calls (HP.out.arena _ _ _ HI.out) i (fun m hm=>(HCS.out.at i m hm).1)).mono ?_
   rintro e w1 ⟨hN,hb⟩
   rw [HNA.out] at hN
   obtain ⟨D1,D2,D5,D9,d1,d2,d5,d9,rfl,x1,x2,x5,x9⟩:=hN
   have HB1:=z_ hb
   have HLT:=z_ (show ∀k,O k->k<W.heap.size from fun k hk=>HP.out.lt _ _ _ k HI.out hk)
   have HX:=z_ (show BX w1 (fun k=>(X k\/W.heap.size<=k)/\k<w1.heap.size) (.slice D1 n.f1.length d1) n.f1/\BX w1 (fun k=>(X k\/W.heap.size<=k)/\k<w1.heap.size) (.slice D2 n.f2.length d2) n.f2 from ⟨Kd.V_bound x1,Kd.V_bound x2⟩)
   rw [hf0]
   clear x1 x2 x5 x9 hb
   obtain ⟨w2,hw2⟩ : ∃w2,w2=w1.alloc (.cells #[.bool false,.slice D1 n.f1.length d1,.slice D2 n.f2.length d2,.int .i64 n.f3,.int .i64 n.f4,.slice D5 n.f5.length d5,.int .i64 n.f6,.int .i64 n.f7,.int .i64 n.f8,.slice D9 n.f9.length d9] 39):=⟨_,rfl⟩
   have HN2:=z_ (show NdB w2 w1.heap.size [.bool false,.slice D1 n.f1.length d1,.slice D2 n.f2.length d2,.int .i64 n.f3,.int .i64 n.f4,.slice D5 n.f5.length d5,.int .i64 n.f6,.int .i64 n.f7,.int .i64 n.f8,.slice D9 n.f9.length d9] from by rw [hw2];exact heap_alloc_new w1 _)
   have HB2:=z_ (show Below w1.heap.size w1 w2 from by rw [hw2];exact below_alloc (Below.refl _ _) _)
   go_wp2_with fail
   rw [<-hw2]
   clear hw2
   obtain ⟨g1,hg1⟩ : ∃x,x=w1.heap.size:=⟨_,rfl⟩
   rw [<-hg1] at HN2
   rw [<-hg1]
   have HG1:=z_ hg1
   clear hg1
   have HI2:=z_ (HP.out.below _ _ _ _ HI.out (below_step HB1.out HB2.out))
   have HB:=z_ (below_step HB1.out HB2.out)
   have hsee:=HP.out.see b O w2 n D1 D2 D5 D9 d1 d2 d5 d9 above (by have:=HH.out;omega) HI2.out (Kd.V_mono (Kd.V_below HX.out.1 HB2.out) (fun k hk=>⟨by have:=HB2.out.size;omega,fun ho=>by have:=HLT.out k ho;rcases hk.1 with h|h;exact HP.out.sep _ _ _ k HI.out h ho;omega⟩)) (Kd.V_mono (Kd.V_below HX.out.2 HB2.out) (fun k hk=>⟨by have:=HB2.out.size;omega,fun ho=>by have:=HLT.out k ho;rcases hk.1 with h|h;exact HP.out.sep _ _ _ k HI.out h ho;omega⟩))
   rw [hf0] at hsee
   refine hsee.mono ?_
   rintro e w3 ⟨rfl,O1,hI3,hk3,hg3⟩
   have HI3:=z_ hI3
   have HK3:=z_ (And.intro hk3 hg3)
   have HGO:=z_ (show ∀Q:Nat->Prop,Grew w2 O Q->¬Q g1 from fun Q hQ ho=>by
    have h1:=HB1.out.size
    have h2:=HG1.out
    have h3:=blk_lt HN2.out
    rcases hQ g1 ho with h|h
    ·have:=HLT.out g1 h
     omega
    ·omega)
   have HN3:=z_ (show NdB w3 g1 [.bool false,.slice D1 n.f1.length d1,.slice D2 n.f2.length d2,.int .i64 n.f3,.int .i64 n.f4,.slice D5 n.f5.length d5,.int .i64 n.f6,.int .i64 n.f7,.int .i64 n.f8,.slice D9 n.f9.length d9] from (hk3.2 g1 (blk_lt HN2.out) (HGO.out O (Grew.refl _ _))).trans HN2.out)
   clear hsee hI3 hk3 hg3
   obtain ⟨m0,m1,m2,m3,m4,m5,m6,m7,m8,m9⟩:=HN3.out.cells
   have hw1:wrap64 ((above:Int)+1)=((above+1:Nat):Int):=by rw [wrap64_id _ (by have:=HH.out;omega)];omega
   have HHL:=z_ (show l.h+(above+1)<=100000/\r.h+(above+1)<=100000 from by have h1:max l.h r.h+1+above<=100000:=HH.out;omega)
   go_wp2_with fail
   try rw [hw1]
   try rw [show (above:Int)+1=((above+1:Nat):Int) from by omega]
   refine (ihl n.f7 (above+1) (step b n above) O1 w3 HHL.out.1 HT.out.2.2.1 HI3.out).mono ?_
   rintro e w4 ⟨rfl,O2,hI4,hk4,hg4⟩
   have HI4:=z_ hI4
   have HK4:=z_ (And.intro hk4 hg4)
   have HG24:=z_ (show Grew w2 O O2 from HK3.out.2.trans hg4 HK3.out.1.1)
   have HN4:=z_ (show NdB w4 g1 [.bool false,.slice D1 n.f1.length d1,.slice D2 n.f2.length d2,.int .i64 n.f3,.int .i64 n.f4,.slice D5 n.f5.length d5,.int .i64 n.f6,.int .i64 n.f7,.int .i64 n.f8,.slice D9 n.f9.length d9] from (hk4.2 g1 (blk_lt HN3.out) (HGO.out O1 HK3.out.2)).trans HN3.out)
   clear hI4 hk4 hg4 m0 m1 m2 m3 m4 m5 m6 m7 m8 m9
   obtain ⟨m0,m1,m2,m3,m4,m5,m6,m7,m8,m9⟩:=HN4.out.cells
   go_wp2_with fail
   try rw [hw1]
   try rw [show (above:Int)+1=((above+1:Nat):Int) from by omega]
   refine (ihr n.f8 (above+1) _ O2 w4 HHL.out.2 HT.out.2.2.2 HI4.out).mono ?_
   rintro e w5 ⟨rfl,O3,hI5,hk5,hg5⟩
   have HI5:=z_ hI5
   have HK5:=z_ (And.intro hk5 hg5)
   clear hI5 hk5 hg5 m0 m1 m2 m3 m4 m5 m6 m7 m8 m9
   go_wp2_with fail
   go_end0
   have h1:=HB.out.size
   have h2:=HK3.out.1.1
   have h3:=HK4.out.1.1
   have h4:=HK5.out.1.1
   have n1 : ∀k,k<W.heap.size->¬O k->¬O1 k:=fun k hk ho h=>(HK3.out.2 k h).elim ho (fun h=>by omega)
   have n2 : ∀k,k<W.heap.size->¬O k->¬O2 k:=fun k hk ho h=>(HG24.out k h).elim ho (fun h=>by omega)
   exact ⟨rfl,O3,HI5.out,⟨by omega,fun k hk ho=>(HK5.out.1.2 k (by omega) (n2 k hk ho)).trans ((HK4.out.1.2 k (by omega) (n1 k hk ho)).trans ((HK3.out.1.2 k (by omega) ho).trans (HB.out.block k hk)))⟩,fun k hk=>((HG24.out.trans HK5.out.2 (by omega)) k hk).imp (fun x=>x) (fun h=>by omega)⟩
theorem walkS_max : ∀(t:PT) (d a:Nat),walkS (fun (d:Nat) (_:Nd) (a:Nat)=>max d a) d t a=max d (t.h+a)
 | .leaf n,d,a=>by simp [walkS,PT.h]
 | .fork n l r,d,a=>by
   simp only [walkS,PT.h]
   rw [walkS_max l,walkS_max r]
   omega
def DeepI (w:World) (g:Nat) (d:Nat) (O:Nat->Prop) (W:World):Prop:=Below w.heap.size w W/\W.heap[g]? = some (.cells #[.int .i64 (d:Int)] 3 (0,0))/\O=(fun k=>k=g)
attribute [local go_sem] max2_int min2_int max_two min_two
set_option maxHeartbeats 4000000 in
set_option maxRecDepth 100000 in
theorem deep_see {w:World} {base p:Nat} {size room:Int} {vc vf:Value} {X:Nat->Prop} {cs:Cs} (h:ArenaM w base p size room vc vf X cs) (g:Nat) (hg:w.heap.size<=g):SeeP 91 g base p size room vc vf X cs (DeepI w g) (fun (d:Nat) (_:Nd) (a:Nat)=>max d a):=by
 refine ⟨fun b O W hI=>h.below hI.1,fun b O W k hI ho=>?_,fun b O W k hI hx ho=>?_,fun b O W W' hI hb=>⟨below_step hI.1 hb,blk_below hI.2.1 hb,hI.2.2⟩,?_⟩
 ·rw [hI.2.2] at ho
  obtain rfl:k=g:=ho
  exact blk_lt hI.2.1
 ·rw [hI.2.2] at ho
  obtain rfl:k=g:=ho
  have:=(h.sep k hx).1
  omega
 ·rintro d O W n D1 D2 D5 D9 d1 d2 d5 d9 above ha ⟨hB,hc,rfl⟩ x1 x2
  have HB:=z_ hB
  have HC:=z_ hc
  have HX:=z_ (And.intro h (And.intro hg x1))
  clear h hg x1 x2 hB hc
  have hne:g≠W.heap.size:=by have:=blk_lt HC.out;omega
  have hne2:W.heap.size≠g:=hne.symm
  obtain ⟨w1,hw1⟩ : ∃w1,w1=W.alloc (.cells #[.bool n.f0,.slice D1 n.f1.length d1,.slice D2 n.f2.length d2,.int .i64 n.f3,.int .i64 n.f4,.slice D5 n.f5.length d5,.int .i64 n.f6,.int .i64 n.f7,.int .i64 n.f8,.slice D9 n.f9.length d9] 39):=⟨_,rfl⟩
  have HB1:=z_ (show Below W.heap.size W w1 from by rw [hw1];exact below_alloc (Below.refl _ _) _)
  have hc1:(W.alloc (.cells #[.bool n.f0,.slice D1 n.f1.length d1,.slice D2 n.f2.length d2,.int .i64 n.f3,.int .i64 n.f4,.slice D5 n.f5.length d5,.int .i64 n.f6,.int .i64 n.f7,.int .i64 n.f8,.slice D9 n.f9.length d9] 39)).heap[g]? = some (.cells #[.int .i64 (d:Int)] 3 (0,0)):=by rw [<-hw1];exact blk_below HC.out HB1.out
  have HC1:=z_ (show w1.heap[g]? = some (.cells #[.int .i64 (d:Int)] 3 (0,0)) from blk_below HC.out HB1.out)
  have k0:(W.alloc (.cells #[.bool n.f0,.slice D1 n.f1.length d1,.slice D2 n.f2.length d2,.int .i64 n.f3,.int .i64 n.f4,.slice D5 n.f5.length d5,.int .i64 n.f6,.int .i64 n.f7,.int .i64 n.f8,.slice D9 n.f9.length d9] 39)).cell? ⟨g,0,none⟩=some (.int .i64 (d:Int)):=blk_cell hc1 0
  have f0:=blk_frozen hc1 0
  clear hc1
  rcases Nat.lt_or_ge d above with hlt|hge
  ·have c1:(d:Int)<(above:Int):=by omega
   have hmx:max d above=above:=by omega
   rw [hmx]
   clear hmx
   go_enter Tryd.func91,Tryd.ntmps91
   go_wp2_with fail
   rw [<-hw1]
   clear hw1 k0 f0
   go_end0
   refine ⟨rfl,fun k=>k=g,⟨?_,?_,rfl⟩,?_,Grew.refl _ _⟩
   ·exact Below.setCell (below_step HB.out HB1.out) (by exact HX.out.2.1) _
   ·exact blk_set HC1.out 0 _
   ·exact ⟨by rw [World.size_setCell];exact HB1.out.size,fun k hk ho=>(Below.heap_setCell _ ⟨g,0,none⟩ _ k ho).trans (HB1.out.block k hk)⟩
  ·have c1 : ¬(d:Int)<(above:Int):=by omega
   have hmx:max d above=d:=by omega
   rw [hmx]
   clear hmx
   go_enter Tryd.func91,Tryd.ntmps91
   go_wp2_with fail
   rw [<-hw1]
   clear hw1 k0 f0
   go_end0
   refine ⟨rfl,fun k=>k=g,⟨?_,?_,rfl⟩,?_,Grew.refl _ _⟩
   ·exact Below.setCell (below_step HB.out HB1.out) (by exact HX.out.2.1) _
   ·exact blk_set HC1.out 0 _
   ·exact ⟨by rw [World.size_setCell];exact HB1.out.size,fun k hk ho=>(Below.heap_setCell _ ⟨g,0,none⟩ _ k ho).trans (HB1.out.block k hk)⟩
end Go.Proofs.YtdeneoknjeegbaaDoor.P
end
section
namespace Go.Proofs.YtdeneoknjeegbaaDoor.P
open Go Go.RowKit YtdeneoknjeegbaaDoor.Pure YtdeneoknjeegbaaDoorW.PrintWords YtdeneoknjeegbaaDoorW.PrintLast YtdeneoknjeegbaaDoorW.PrintMore
structure SeeB {β:Type} (fn:FuncId) (g:Nat) (base p:Nat) (size room:Int) (vc vf:Value) (X Y:Nat->Prop) (cs:Cs) (I:β->(Nat->Prop)->World->Prop) (step:β->Nd->Nat->β) (ok:β->Nd->Nat->Prop):Prop where
 arena : ∀b O W,I b O W->ArenaM W base p size room vc vf X cs
 lt : ∀b O W k,I b O W->O k->k<W.heap.size
 sep : ∀b O W k,I b O W->X k->¬O k
 below : ∀b O W W',I b O W->Below W.heap.size W W'->I b O W'
 yx : ∀k,X k->Y k
 yfresh : ∀b O W k,I b O W->W.heap.size<=k->Y k
 see : ∀b O W (n:Nd) (D1 D2 D5 D9:Option Addr) (d1 d2 d5 d9:Nat) (above:Nat),above<=100000->ok b n above->I b O W->BX W (fun k=>Y k/\k<W.heap.size/\¬O k) (.slice D1 n.f1.length d1) n.f1->BX W (fun k=>Y k/\k<W.heap.size/\¬O k) (.slice D2 n.f2.length d2) n.f2->
  Calls Tryd.prog fn #[.agg #[.bool n.f0,.slice D1 n.f1.length d1,.slice D2 n.f2.length d2,.int .i64 n.f3,.int .i64 n.f4,.slice D5 n.f5.length d5,.int .i64 n.f6,.int .i64 n.f7,.int .i64 n.f8,.slice D9 n.f9.length d9],.int .i64 (above:Int),.pointer (some ⟨g,0,none⟩)] W fun e W'=>e = .returned (.tuple #[])/\∃O',I (step b n above) O' W'/\Kept W W' O/\Grew W O O'
def okW {β:Type} (ok:β->Nd->Nat->Prop) (step:β->Nd->Nat->β):β->PT->Nat->Prop
 | b,.leaf n,a=>ok b n a
 | b,.fork n l r,a=>ok b n a/\okW ok step (step b n a) l (a+1)/\okW ok step (walkS step (step b n a) l (a+1)) r (a+1)
set_option maxHeartbeats 8000000 in
set_option maxRecDepth 100000 in
theorem walkI_calls {β:Type} {g base p:Nat} {size room:Int} {vc vf:Value} {X:Nat->Prop} {cs:Cs} {I:β->(Nat->Prop)->World->Prop} {step:β->Nd->Nat->β} {ok:β->Nd->Nat->Prop} {Y:Nat->Prop} (hP:SeeB 67 g base p size room vc vf X Y cs I step ok) (hcs:CsOk cs) (t:PT):
 ∀(i:Int) (above:Nat) (b:β) (O:Nat->Prop) (W:World),t.h+above<=100000->okW ok step b t above->IsT cs i t->I b O W->
  Calls Tryd.prog 66 #[.pointer (some ⟨p,0,none⟩),.int .i64 i,.int .i64 (above:Int),.func (.func 67) #[] #[.pointer (some ⟨g,0,none⟩)]] W fun e W'=>e = .returned (.tuple #[])/\∃O',I (walkS step b t above) O' W'/\Kept W W' O/\Grew W O O':=by
 have HP:=z_ hP
 have HCS:=z_ hcs
 clear hP hcs
 induction t with
 | leaf n=>
   intro i above b O W hh hok hT hI
   have HOK:=z_ hok
   clear hok
   have HT:=z_ hT
   have HI:=z_ hI
   have HH:=z_ hh
   have hf0:n.f0=true:=hT.2
   have HNA:=z_ (show nodeAt cs i=some n from hT.1)
   clear hT hI hh
   go_enter Tryd.func66,Tryd.ntmps66
   go_wp2_with fail
   refine (nodeA_calls (HP.out.arena _ _ _ HI.out) i (fun m hm=>(HCS.out.at i m hm).1)).mono ?_
   rintro e w1 ⟨hN,hb⟩
   rw [HNA.out] at hN
   obtain ⟨D1,D2,D5,D9,d1,d2,d5,d9,rfl,x1,x2,x5,x9⟩:=hN
   have HB1:=z_ hb
   have HLT:=z_ (show ∀k,O k->k<W.heap.size from fun k hk=>HP.out.lt _ _ _ k HI.out hk)
   have HX:=z_ (show BX w1 (fun k=>(X k\/W.heap.size<=k)/\k<w1.heap.size) (.slice D1 n.f1.length d1) n.f1/\BX w1 (fun k=>(X k\/W.heap.size<=k)/\k<w1.heap.size) (.slice D2 n.f2.length d2) n.f2 from ⟨Kd.V_bound x1,Kd.V_bound x2⟩)
   rw [hf0]
   clear x1 x2 x5 x9 hb
   obtain ⟨w2,hw2⟩ : ∃w2,w2=w1.alloc (.cells #[.bool true,.slice D1 n.f1.length d1,.slice D2 n.f2.length d2,.int .i64 n.f3,.int .i64 n.f4,.slice D5 n.f5.length d5,.int .i64 n.f6,.int .i64 n.f7,.int .i64 n.f8,.slice D9 n.f9.length d9] 39):=⟨_,rfl⟩
   have HN2:=z_ (show NdB w2 w1.heap.size [.bool true,.slice D1 n.f1.length d1,.slice D2 n.f2.length d2,.int .i64 n.f3,.int .i64 n.f4,.slice D5 n.f5.length d5,.int .i64 n.f6,.int .i64 n.f7,.int .i64 n.f8,.slice D9 n.f9.length d9] from by rw [hw2];exact heap_alloc_new w1 _)
   have HB2:=z_ (show Below w1.heap.size w1 w2 from by rw [hw2];exact below_alloc (Below.refl _ _) _)
   go_wp2_with fail
   rw [<-hw2]
   clear hw2
   obtain ⟨g1,hg1⟩ : ∃x,x=w1.heap.size:=⟨_,rfl⟩
   rw [<-hg1] at HN2
   rw [<-hg1]
   have HG1:=z_ hg1
   clear hg1
   have HI2:=z_ (HP.out.below _ _ _ _ HI.out (below_step HB1.out HB2.out))
   have HB:=z_ (below_step HB1.out HB2.out)
   have hsee:=HP.out.see b O w2 n D1 D2 D5 D9 d1 d2 d5 d9 above (by have:=HH.out;omega) HOK.out HI2.out (Kd.V_mono (Kd.V_below HX.out.1 HB2.out) (fun k hk=>⟨hk.1.elim (HP.out.yx k) (HP.out.yfresh _ _ _ k HI.out),by have:=HB2.out.size;omega,fun ho=>by have:=HLT.out k ho;rcases hk.1 with h|h;exact HP.out.sep _ _ _ k HI.out h ho;omega⟩)) (Kd.V_mono (Kd.V_below HX.out.2 HB2.out) (fun k hk=>⟨hk.1.elim (HP.out.yx k) (HP.out.yfresh _ _ _ k HI.out),by have:=HB2.out.size;omega,fun ho=>by have:=HLT.out k ho;rcases hk.1 with h|h;exact HP.out.sep _ _ _ k HI.out h ho;omega⟩))
   rw [hf0] at hsee
   refine hsee.mono ?_
   rintro e w3 ⟨rfl,O1,hI3,hk3,hg3⟩
   have HI3:=z_ hI3
   have HK3:=z_ (And.intro hk3 hg3)
   have HGO:=z_ (show ∀Q:Nat->Prop,Grew w2 O Q->¬Q g1 from fun Q hQ ho=>by
    have h1:=HB1.out.size
    have h2:=HG1.out
    have h3:=blk_lt HN2.out
    rcases hQ g1 ho with h|h
    ·have:=HLT.out g1 h
     omega
    ·omega)
   have HN3:=z_ (show NdB w3 g1 [.bool true,.slice D1 n.f1.length d1,.slice D2 n.f2.length d2,.int .i64 n.f3,.int .i64 n.f4,.slice D5 n.f5.length d5,.int .i64 n.f6,.int .i64 n.f7,.int .i64 n.f8,.slice D9 n.f9.length d9] from (hk3.2 g1 (blk_lt HN2.out) (HGO.out O (Grew.refl _ _))).trans HN2.out)
   clear hsee hI3 hk3 hg3
   obtain ⟨m0,m1,m2,m3,m4,m5,m6,m7,m8,m9⟩:=HN3.out.cells
   go_wp2_with fail
   go_end0
   exact ⟨rfl,O1,HI3.out,⟨by have:=HB.out.size;have:=HK3.out.1.1;omega,fun k hk ho=>(HK3.out.1.2 k (by have:=HB.out.size;omega) ho).trans (HB.out.block k hk)⟩,fun k hk=>(HK3.out.2 k hk).imp (fun x=>x) (fun h=>by have:=HB.out.size;omega)⟩
 | fork n l r ihl ihr=>
   intro i above b O W hh hok hT hI
   have HOK:=z_ hok
   clear hok
   have HT:=z_ hT
   have HI:=z_ hI
   have HH:=z_ hh
   have hf0:n.f0=false:=hT.2.1
   have HNA:=z_ (show nodeAt cs i=some n from hT.1)
   clear hT hI hh
   go_enter Tryd.func66,Tryd.ntmps66
   go_wp2_with fail
   refine (nodeA_calls (HP.out.arena _ _ _ HI.out) i (fun m hm=>(HCS.out.at i m hm).1)).mono ?_
   rintro e w1 ⟨hN,hb⟩
   rw [HNA.out] at hN
   obtain ⟨D1,D2,D5,D9,d1,d2,d5,d9,rfl,x1,x2,x5,x9⟩:=hN
   have HB1:=z_ hb
   have HLT:=z_ (show ∀k,O k->k<W.heap.size from fun k hk=>HP.out.lt _ _ _ k HI.out hk)
   have HX:=z_ (show BX w1 (fun k=>(X k\/W.heap.size<=k)/\k<w1.heap.size) (.slice D1 n.f1.length d1) n.f1/\BX w1 (fun k=>(X k\/W.heap.size<=k)/\k<w1.heap.size) (.slice D2 n.f2.length d2) n.f2 from ⟨Kd.V_bound x1,Kd.V_bound x2⟩)
   rw [hf0]
   clear x1 x2 x5 x9 hb
   obtain ⟨w2,hw2⟩ : ∃w2,w2=w1.alloc (.cells #[.bool false,.slice D1 n.f1.length d1,.slice D2 n.f2.length d2,.int .i64 n.f3,.int .i64 n.f4,.slice D5 n.f5.length d5,.int .i64 n.f6,.int .i64 n.f7,.int .i64 n.f8,.slice D9 n.f9.length d9] 39):=⟨_,rfl⟩
   have HN2:=z_ (show NdB w2 w1.heap.size [.bool false,.slice D1 n.f1.length d1,.slice D2 n.f2.length d2,.int .i64 n.f3,.int .i64 n.f4,.slice D5 n.f5.length d5,.int .i64 n.f6,.int .i64 n.f7,.int .i64 n.f8,.slice D9 n.f9.length d9] from by rw [hw2];exact heap_alloc_new w1 _)
   have HB2:=z_ (show Below w1.heap.size w1 w2 from by rw [hw2];exact below_alloc (Below.refl _ _) _)
   go_wp2_with fail
   rw [<-hw2]
   clear hw2
   obtain ⟨g1,hg1⟩ : ∃x,x=w1.heap.size:=⟨_,rfl⟩
   rw [<-hg1] at HN2
   rw [<-hg1]
   have HG1:=z_ hg1
   clear hg1
   have HI2:=z_ (HP.out.below _ _ _ _ HI.out (below_step HB1.out HB2.out))
   have HB:=z_ (below_step HB1.out HB2.out)
   have hsee:=HP.out.see b O w2 n D1 D2 D5 D9 d1 d2 d5 d9 above (by have:=HH.out;omega) HOK.out.1 HI2.out (Kd.V_mono (Kd.V_below HX.out.1 HB2.out) (fun k hk=>⟨hk.1.elim (HP.out.yx k) (HP.out.yfresh _ _ _ k HI.out),by have:=HB2.out.size;omega,fun ho=>by have:=HLT.out k ho;rcases hk.1 with h|h;exact HP.out.sep _ _ _ k HI.out h ho;omega⟩)) (Kd.V_mono (Kd.V_below HX.out.2 HB2.out) (fun k hk=>⟨hk.1.elim (HP.out.yx k) (HP.out.yfresh _ _ _ k HI.out),by have:=HB2.out.size;omega,fun ho=>by have:=HLT.out k ho;rcases hk.1 with h|h;exact HP.out.sep _ _ _ k HI.out h ho;omega⟩))
   rw [hf0] at hsee
   refine hsee.mono ?_
   rintro e w3 ⟨rfl,O1,hI3,hk3,hg3⟩
   have HI3:=z_ hI3
   have HK3:=z_ (And.intro hk3 hg3)
   have HGO:=z_ (show ∀Q:Nat->Prop,Grew w2 O Q->¬Q g1 from fun Q hQ ho=>by
    have h1:=HB1.out.size
    have h2:=HG1.out
    have h3:=blk_lt HN2.out
    rcases hQ g1 ho with h|h
    ·have:=HLT.out g1 h
     omega
    ·omega)
   have HN3:=z_ (show NdB w3 g1 [.bool false,.slice D1 n.f1.length d1,.slice D2 n.f2.length d2,.int .i64 n.f3,.int .i64 n.f4,.slice D5 n.f5.length d5,.int .i64 n.f6,.int .i64 n.f7,.int .i64 n.f8,.slice D9 n.f9.length d9] from (hk3.2 g1 (blk_lt HN2.out) (HGO.out O (Grew.refl _ _))).trans HN2.out)
   clear hsee hI3 hk3 hg3
   obtain ⟨m0,m1,m2,m3,m4,m5,m6,m7,m8,m9⟩:=HN3.out.cells
   have hw1:wrap64 ((above:Int)+1)=((above+1:Nat):Int):=by rw [wrap64_id _ (by have:=HH.out;omega)];omega
   have HHL:=z_ (show l.h+(above+1)<=100000/\r.h+(above+1)<=100000 from by have h1:max l.h r.h+1+above<=100000:=HH.out;omega)
   go_wp2_with fail
   try rw [hw1]
   try rw [show (above:Int)+1=((above+1:Nat):Int) from by omega]
   refine (ihl n.f7 (above+1) (step b n above) O1 w3 HHL.out.1 HOK.out.2.1 HT.out.2.2.1 HI3.out).mono ?_
   rintro e w4 ⟨rfl,O2,hI4,hk4,hg4⟩
   have HI4:=z_ hI4
   have HK4:=z_ (And.intro hk4 hg4)
   have HG24:=z_ (show Grew w2 O O2 from HK3.out.2.trans hg4 HK3.out.1.1)
   have HN4:=z_ (show NdB w4 g1 [.bool false,.slice D1 n.f1.length d1,.slice D2 n.f2.length d2,.int .i64 n.f3,.int .i64 n.f4,.slice D5 n.f5.length d5,.int .i64 n.f6,.int .i64 n.f7,.int .i64 n.f8,.slice D9 n.f9.length d9] from (hk4.2 g1 (blk_lt HN3.out) (HGO.out O1 HK3.out.2)).trans HN3.out)
   clear hI4 hk4 hg4 m0 m1 m2 m3 m4 m5 m6 m7 m8 m9
   obtain ⟨m0,m1,m2,m3,m4,m5,m6,m7,m8,m9⟩:=HN4.out.cells
   go_wp2_with fail
   try rw [hw1]
   try rw [show (above:Int)+1=((above+1:Nat):Int) from by omega]
   refine (ihr n.f8 (above+1) _ O2 w4 HHL.out.2 HOK.out.2.2 HT.out.2.2.2 HI4.out).mono ?_
   rintro e w5 ⟨rfl,O3,hI5,hk5,hg5⟩
   have HI5:=z_ hI5
   have HK5:=z_ (And.intro hk5 hg5)
   clear hI5 hk5 hg5 m0 m1 m2 m3 m4 m5 m6 m7 m8 m9
   go_wp2_with fail
   go_end0
   have h1:=HB.out.size
   have h2:=HK3.out.1.1
   have h3:=HK4.out.1.1
   have h4:=HK5.out.1.1
   have n1 : ∀k,k<W.heap.size->¬O k->¬O1 k:=fun k hk ho h=>(HK3.out.2 k h).elim ho (fun h=>by omega)
   have n2 : ∀k,k<W.heap.size->¬O k->¬O2 k:=fun k hk ho h=>(HG24.out k h).elim ho (fun h=>by omega)
   exact ⟨rfl,O3,HI5.out,⟨by omega,fun k hk ho=>(HK5.out.1.2 k (by omega) (n2 k hk ho)).trans ((HK4.out.1.2 k (by omega) (n1 k hk ho)).trans ((HK3.out.1.2 k (by omega) ho).trans (HB.out.block k hk)))⟩,fun k hk=>((HG24.out.trans HK5.out.2 (by omega)) k hk).imp (fun x=>x) (fun h=>by omega)⟩
def itOf (n:Nd):S51:=⟨n.f1,n.f2,n.f3⟩
def ItmI (X:Nat->Prop) (w:World) (g:Nat) (l:List S51) (O:Nat->Prop) (W:World):Prop:=Below w.heap.size w W/\∃v,W.heap[g]? = some (.cells #[v] 54 (0,0))/\Kd.N k51 51 W w.heap.size (fun k=>(X k\/w.heap.size<=k)/\k≠g) v l/\O=(fun k=>k=g\/some k=v.ownBlock)
def itmStep (l:List S51) (n:Nd) (_:Nat):List S51:=if n.f0 then l++[itOf n] else l
def itm_T2:Bool×List (List Nat×List Nat):=(true,[([],[]),([],[]),([1],[1]),([2],[2]),([0,3,2],[0,3]),([4,4,0,1,2,3,4],[4])])
def itm_B2:List Nat:=[0,0,2,6,15,31]
theorem itm_tab2:rtab .any (opsOf Tryd.f67 2)=itm_T2:=by kernel_rfl
theorem itm_bits2:waitsOk itm_T2.2 itm_B2=true:=by kernel_rfl
set_option maxHeartbeats 4000000 in
set_option maxRecDepth 100000 in
theorem items_see {w:World} {base p:Nat} {size room:Int} {vc vf:Value} {X:Nat->Prop} {cs:Cs} (h:ArenaM w base p size room vc vf X cs) (g:Nat) (hg:w.heap.size<=g):SeeB 67 g base p size room vc vf X (fun k=>X k\/w.heap.size<=k) cs (ItmI X w g) itmStep (fun l _ _=>l.length<1000000):=by
 refine ⟨fun b O W hI=>h.below hI.1,fun b O W k hI ho=>?_,fun b O W k hI hx ho=>?_,fun b O W W' hI hb=>?_,fun k hk=>.inl hk,fun b O W k hI hk=>.inr (Nat.le_trans hI.1.size hk),?_⟩
 ·obtain ⟨_,v,hc,hN,rfl⟩:=hI
  rcases ho with rfl|ho
  ·exact blk_lt hc
  ·exact Kd.N_lt hN k ho.symm
 ·obtain ⟨_,v,hc,hN,rfl⟩:=hI
  have h1:=(h.sep k hx).1
  rcases ho with rfl|ho
  ·omega
  ·have:=Kd.N_base hN k ho.symm
   omega
 ·obtain ⟨h1,v,hc,hN,rfl⟩:=hI
  exact ⟨below_step h1 hb,v,blk_below hc hb,Kd.N_below hN hb,rfl⟩
 ·rintro l O W n D1 D2 D5 D9 d1 d2 d5 d9 above ha hok ⟨hB,v,hc,hN,rfl⟩ x1 x2
  have HB:=z_ hB
  have HC:=z_ hc
  have HNN0:=z_ hN
  have HX:=z_ (And.intro h (And.intro hg (And.intro x1 x2)))
  have HL:=z_ (show l.length<1000000 from hok)
  clear h hg x1 x2 hB hc hN hok
  unfold itmStep
  obtain ⟨f0,hf0⟩ : ∃b,b=n.f0:=⟨_,rfl⟩
  rw [<-hf0]
  clear hf0
  cases f0 with
  | false=>
    rw [if_neg (by decide)]
    obtain ⟨w1,hw1⟩ : ∃w1,w1=W.alloc (.cells #[.bool false,.slice D1 n.f1.length d1,.slice D2 n.f2.length d2,.int .i64 n.f3,.int .i64 n.f4,.slice D5 n.f5.length d5,.int .i64 n.f6,.int .i64 n.f7,.int .i64 n.f8,.slice D9 n.f9.length d9] 39):=⟨_,rfl⟩
    have HB1:=z_ (show Below W.heap.size W w1 from by rw [hw1];exact below_alloc (Below.refl _ _) _)
    go_enter Tryd.func67,Tryd.ntmps67
    go_wp2_with fail
    rw [<-hw1]
    clear hw1
    go_end0
    exact ⟨rfl,_,⟨below_step HB.out HB1.out,v,blk_below HC.out HB1.out,Kd.N_below HNN0.out HB1.out,rfl⟩,⟨HB1.out.size,fun k hk _=>HB1.out.block k hk⟩,Grew.refl _ _⟩
  | true=>
    rw [if_pos rfl]
    obtain ⟨w1,hw1⟩ : ∃w1,w1=W.alloc (.cells #[.bool true,.slice D1 n.f1.length d1,.slice D2 n.f2.length d2,.int .i64 n.f3,.int .i64 n.f4,.slice D5 n.f5.length d5,.int .i64 n.f6,.int .i64 n.f7,.int .i64 n.f8,.slice D9 n.f9.length d9] 39):=⟨_,rfl⟩
    have HB1:=z_ (show Below W.heap.size W w1 from by rw [hw1];exact below_alloc (Below.refl _ _) _)
    have HN1:=z_ (show NdB w1 W.heap.size [.bool true,.slice D1 n.f1.length d1,.slice D2 n.f2.length d2,.int .i64 n.f3,.int .i64 n.f4,.slice D5 n.f5.length d5,.int .i64 n.f6,.int .i64 n.f7,.int .i64 n.f8,.slice D9 n.f9.length d9] from by rw [hw1];exact heap_alloc_new W _)
    have HC1:=z_ (blk_below HC.out HB1.out)
    go_enter Tryd.func67,Tryd.ntmps67
    go_wp2_with fail
    rw [<-hw1]
    clear hw1
    obtain ⟨g1,hg1⟩ : ∃x,x=W.heap.size:=⟨_,rfl⟩
    rw [<-hg1] at HN1
    rw [<-hg1]
    have HG1:=z_ hg1
    clear hg1
    refine start_ (n:=6) (S:=fun w'=>w'.heap[g]? = some (.cells #[v] 54 (0,0))/\NdB w' g1 [.bool true,.slice D1 n.f1.length d1,.slice D2 n.f2.length d2,.int .i64 n.f3,.int .i64 n.f4,.slice D5 n.f5.length d5,.int .i64 n.f6,.int .i64 n.f7,.int .i64 n.f8,.slice D9 n.f9.length d9]) (ds:=[5]) (bt_ 6 0) (by kernel_rfl) rfl rfl ?hs0 (fun hHeld=>?_)
    case hs0=>exact ⟨HC1.out,HN1.out⟩
    refine with_tabW itm_tab2 itm_bits2 (fun HT_ HW_=>?_)
    have HD2:=z_ (show Below w1.heap.size w1 w1.drew from below_drew (Below.refl _ _))
    generalize hgw:w1.drew=w2 at HD2 hHeld ⊢
    clear hgw
    have HW2:=z_ (below_step HB1.out HD2.out)
    have HB2:=z_ (below_step HB.out HW2.out)
    have HC2:=z_ (blk_below HC1.out HD2.out)
    have HN2:=z_ (HN1.out.below HD2.out)
    refine take_ (i:=0) (N:=some 7) (v:=?_) (a':=?_) (bt_ 6 1) rfl rfl (take_ofW HT_.out HW_.out (by kernel_rfl)) (fun _ _ _ h=>h) (Or.inl ⟨by rfl,?_⟩) hHeld ?_ ?_
    rotate_left
    ·rintro w' s0
     have k0:=blk_cell s0.1 0
     simp at k0
     go_simp
     with_reducible rfl
    rotate_left
    ·simp only [pq_]
     rfl
    refine take_ (i:=1) (N:=some 8) (v:=?_) (a':=?_) (bt_ 6 3) rfl rfl (take_ofW HT_.out HW_.out (by kernel_rfl)) (fun _ _ _ h=>h) (Or.inl ⟨by rfl,?_⟩) hHeld ?_ ?_
    rotate_left
    ·rintro w' s0
     obtain ⟨m0,m1,m2,m3,m4,m5,m6,m7,m8,m9⟩:=NdB.cells s0.2
     go_simp
     with_reducible rfl
    rotate_left
    ·simp only [pq_]
     rfl
    refine one_ (i:=2) (N:=some 9) (bt_ 6 7) rfl rfl (one_of HT_.out (by kernel_rfl)) (by decide) (fun K hK=>?_)
    refine goes_ Tryd.func65 (by kernel_rfl) rfl #[.agg #[.bool true,.slice D1 n.f1.length d1,.slice D2 n.f2.length d2,.int .i64 n.f3,.int .i64 n.f4,.slice D5 n.f5.length d5,.int .i64 n.f6,.int .i64 n.f7,.int .i64 n.f8,.slice D9 n.f9.length d9]] (by rfl) rfl rfl (by (try simp only [List.map_toArray,List.map_cons,List.map_nil]);first|done|rfl) ?_
    with_reducible refine (item_calls w2 _ _ _ _ _ _ _ D1 D2 n.f1.length d1 n.f2.length d2 n.f3).mono ?_
    rintro e w3 ⟨rfl,hb⟩
    have HB3:=z_ (below_step HB2.out hb)
    have HC3:=z_ (blk_below HC2.out hb)
    have HN3:=z_ (HN2.out.below hb)
    have HW3:=z_ (show Below W.heap.size W w3 from below_step HW2.out hb)
    clear hb
    have HNN:=z_ (Kd.N_below HNN0.out HW3.out)
    have HNE:=z_ (show some g1≠v.ownBlock from fun he=>by have:=Kd.N_lt HNN0.out g1 he.symm;have:=HG1.out;omega)
    have HP:=z_ (show Kd.FK k51 w3 (fun k=>((X k\/w.heap.size<=k)/\k≠g)/\some k≠v.ownBlock) (itOf n) [.slice D1 n.f1.length d1,.slice D2 n.f2.length d2,.int .i64 n.f3] from by
     have y1:=Kd.V_mono (Kd.V_below HX.out.2.2.1 HW3.out) (ok':=fun k=>((X k\/w.heap.size<=k)/\k≠g)/\some k≠v.ownBlock) (fun k hk=>⟨⟨hk.1,fun h=>hk.2.2 (.inl h)⟩,fun h=>hk.2.2 (.inr h)⟩)
     have y2:=Kd.V_mono (Kd.V_below HX.out.2.2.2 HW3.out) (ok':=fun k=>((X k\/w.heap.size<=k)/\k≠g)/\some k≠v.ownBlock) (fun k hk=>⟨⟨hk.1,fun h=>hk.2.2 (.inl h)⟩,fun h=>hk.2.2 (.inr h)⟩)
     exact k51_mkF _ _ (itOf n) (Kd.V_reads' y1).2.1 (Kd.V_F y1) (Kd.V_reads' y2).2.1 (Kd.V_F y2))
    refine ⟨_,rfl,?_⟩
    refine hK.out _ _ ⟨HC3.out,HN3.out⟩ (fun hHeld=>?_)
    clear hK K
    refine norm_ (a':=?_) ?_ ?_
    rotate_left
    ·show Act.put _ (some 9) _=_
     simp only [pq_]
     rfl
    refine one_ (i:=3) (N:=some 10) (bt_ 6 15) rfl rfl (one_of HT_.out (by kernel_rfl)) (by decide) (fun K hK=>?_)
    refine value_ (v:=.slice (some ⟨w3.heap.size,0,none⟩) 1 1) (w1:=w3.alloc (.cells #[.slice D1 n.f1.length d1,.slice D2 n.f2.length d2,.int .i64 n.f3] 51)) (by rfl) rfl ?_ ?_
    ·(go_simp<;>first|rfl|done)
    have hba:Below w3.heap.size w3 (w3.alloc (.cells #[.slice D1 n.f1.length d1,.slice D2 n.f2.length d2,.int .i64 n.f3] 51)):=below_alloc (Below.refl _ _) _
    refine hK.out _ _ ⟨blk_below HC3.out hba,HN3.out.below hba⟩ (fun hHeld=>?_)
    clear hK K
    refine norm_ (a':=?_) ?_ ?_
    rotate_left
    ·show Act.put _ (some 10) _=_
     simp only [pq_]
     rfl
    refine one_ (i:=4) (N:=some 11) (bt_ 6 31) rfl rfl (one_of HT_.out (by kernel_rfl)) (by decide) (fun K hK=>?_)
    refine Kd.N_append_step k51 (w0:=w) w.heap.size (by rfl) (.tmp 7) (.tmp 10) 54 51 (.agg #[.slice none 0 0,.slice none 0 0,.int .i64 0]) 56 rfl Tryd.underlying54 (by kernel_rfl) rfl (by decide) (by omega) v l (itOf n) [.slice D1 n.f1.length d1,.slice D2 n.f2.length d2,.int .i64 n.f3] (fun k=>(X k\/w.heap.size<=k)/\k≠g) (fun k=>((X k\/w.heap.size<=k)/\k≠g)/\some k≠v.ownBlock) rfl rfl ?aP (fun _ hk=>hk) ?aF ?aO ?aB ?aS ?aL ?_
    case aP=>exact HP.out
    case aF=>exact (fun k hk=>⟨.inr (Nat.le_trans HB3.out.size hk),by have:=blk_lt HC3.out;omega⟩)
    case aO=>exact HNN.out
    case aB=>exact HB3.out
    case aS=>exact HB3.out.size
    case aL=>have:=HL.out;omega
    intro v1 w5 ho hb5 hg5 hat
    obtain ⟨A',m',rfl⟩:=Kd.N_slice ho
    obtain ⟨kl,hkl⟩ : ∃kl,kl=(l++[itOf n]).length:=⟨_,rfl⟩
    rw [<-hkl] at ho hat
    rw [<-hkl]
    have HO5:=z_ ho
    have HB5:=z_ hb5
    have HG5:=z_ hg5
    have HAT:=z_ hat
    have HC5:=z_ (show w5.heap[g]? = some (.cells #[v] 54 (0,0)) from (hg5.block g (blk_lt HC3.out) (fun he=>(HNN.out.1 g he.symm).2 rfl)).trans HC3.out)
    have HN5:=z_ (show NdB w5 g1 [.bool true,.slice D1 n.f1.length d1,.slice D2 n.f2.length d2,.int .i64 n.f3,.int .i64 n.f4,.slice D5 n.f5.length d5,.int .i64 n.f6,.int .i64 n.f7,.int .i64 n.f8,.slice D9 n.f9.length d9] from (hg5.block g1 (blk_lt HN3.out) HNE.out).trans HN3.out)
    clear ho hb5 hg5 hat hkl
    refine hK.out _ _ ⟨HC5.out,HN5.out⟩ (fun hHeld=>?_)
    clear hK K
    refine norm_ (a':=?_) ?_ ?_
    rotate_left
    ·show Act.put _ (some 11) _=_
     simp only [pq_]
     rfl
    refine last_ (i:=5) (N:=none) (bt_ 6 63) rfl rfl (one_of HT_.out (by kernel_rfl)) (by decide) (fun K hK=>?_)
    obtain ⟨w6,hw6⟩ : ∃w6,w6=w5.setCell ⟨g,0,none⟩ (.slice A' kl m'):=⟨_,rfl⟩
    have HW6:=z_ hw6
    have k3:=blk_cell HC5.out 0
    have kf:=blk_frozen HC5.out 0
    refine skip_ (w1:=w6) (by rfl) rfl ?_ ?_
    ·(go_simp<;>first|rfl|(rw [hw6];rfl)|(subst hw6;rfl))
    clear k3 kf hw6 hHeld
    refine hK.out _ _ ?_
    clear hK K
    refine done_ (done_of HT_.out (by kernel_rfl)) ?_
    go_wp2_with fail
    go_end0
    have hgw:=HX.out.2.1
    have hsz:w5.heap.size<=w6.heap.size:=by rw [HW6.out,World.size_setCell];exact Nat.le_refl _
    have h5:w3.heap.size<=w5.heap.size:=HG5.out.size
    have h3:=HW3.out.size
    refine ⟨rfl,fun k=>k=g\/some k=(Value.slice A' kl m').ownBlock,⟨?_,.slice A' kl m',?_,?_,rfl⟩,⟨by omega,fun k hk ho=>?_⟩,fun k hk=>?_⟩
    ·rw [HW6.out]
     exact Below.setCell HB5.out (by exact hgw) _
    ·rw [HW6.out]
     exact blk_set HC5.out 0 _
    ·rw [HW6.out]
     exact Kd.N_far HO5.out (fun k hk=>hk.2) _
    ·rw [HW6.out]
     exact (Below.heap_setCell _ ⟨g,0,none⟩ _ k (fun h=>ho (.inl h))).trans ((HG5.out.block k (by omega) (fun h=>ho (.inr h))).trans (HW3.out.block k hk))
    ·rcases hk with h|h
     ·exact .inl (.inl h)
     ·rcases HAT.out with h1|⟨b,h1,h2⟩
      ·exact .inl (.inr (h.trans h1))
      ·obtain rfl:k=b:=Option.some.inj (h.trans h1)
       exact .inr (by omega)
def sOf (x:Lf):S51:=⟨x.id,x.key,x.since⟩
theorem walkS_items {cs:Cs} : ∀(t:PT) (i:Int) (l:List S51) (a:Nat),IsT cs i t->walkS itmStep l t a=l++t.leaves.map sOf
 | .leaf n,i,l,a,h=>by
   have h2:n.f0=true:=h.2
   simp only [walkS,itmStep,PT.leaves,h2,if_true]
   rfl
 | .fork n x y,i,l,a,h=>by
   have h2:n.f0=false:=h.2.1
   simp only [walkS,PT.leaves]
   rw [walkS_items x n.f7 _ _ h.2.2.1,walkS_items y n.f8 _ _ h.2.2.2]
   simp only [itmStep,h2]
   simp
theorem okW_items {cs:Cs} : ∀(t:PT) (i:Int) (l:List S51) (a:Nat),IsT cs i t->l.length+t.leaves.length<=1000000->okW (fun l _ _=>l.length<1000000) itmStep l t a
 | .leaf n,i,l,a,h,hl=>by
   show l.length<1000000
   have:(PT.leaf n).leaves.length=1:=rfl
   omega
 | .fork n x y,i,l,a,h,hl=>by
   have h2:n.f0=false:=h.2.1
   have h3:itmStep l n a=l:=by simp [itmStep,h2]
   have h4:(PT.fork n x y).leaves.length=x.leaves.length+y.leaves.length:=by simp [PT.leaves]
   obtain ⟨z,hz⟩:=PT.leaves_ne x
   have h5:=List.length_pos_of_mem hz
   refine ⟨by show l.length<1000000;omega,?_,?_⟩
   ·rw [h3]
    exact okW_items x n.f7 l (a+1) h.2.2.1 (by omega)
   ·rw [h3,walkS_items x n.f7 _ _ h.2.2.1]
    exact okW_items y n.f8 _ (a+1) h.2.2.2 (by rw [List.length_append,List.length_map];omega)
set_option maxRecDepth 100000 in
theorem items_calls {w:World} {base p:Nat} {size room:Int} {vc vf:Value} {X:Nat->Prop} {cs:Cs} (h:ArenaM w base p size room vc vf X cs) (root:Int) (t:Option PT) (ht:TreeIn size cs root t) (hl:(leavesO t).length<=1000000):
 Calls Tryd.prog 24 #[.pointer (some ⟨p,0,none⟩),.int .i64 root] w fun e w'=>∃v,e = .returned v/\Kd.N k51 51 w' w.heap.size (fun k=>X k\/w.heap.size<=k) v ((leavesO t).map sOf)/\Below w.heap.size w w':=by
 have HA:=z_ h
 have HT:=z_ ht
 have HL:=z_ hl
 clear h ht hl
 obtain ⟨w1,hw1⟩ : ∃w1,w1=w.alloc (.cells #[.slice none 0 0] 54):=⟨_,rfl⟩
 have HB1:=z_ (show Below w.heap.size w w1 from by rw [hw1];exact below_alloc (Below.refl _ _) _)
 have HG1:=z_ (show w1.heap[w.heap.size]? = some (.cells #[.slice none 0 0] 54 (0,0)) from by rw [hw1];exact heap_alloc_new w _)
 go_enter Tryd.func24,Tryd.ntmps24
 go_wp2_with fail
 rw [<-hw1]
 clear hw1
 obtain ⟨g,hg⟩ : ∃g,g=w.heap.size:=⟨_,rfl⟩
 rw [<-hg] at HG1
 rw [<-hg]
 have HGE:=z_ hg
 clear hg
 cases t with
 | none=>
   refine (walk_none (HA.out.below HB1.out) root 0 HT.out.at_ _).mono ?_
   rintro e w2 ⟨rfl,hb⟩
   have hc:=blk_below HG1.out hb
   have HB2:=z_ (below_step HB1.out hb)
   clear hb
   have k0:w2.cell? ⟨g,0,none⟩=some (.slice none 0 0):=blk_cell hc 0
   clear hc
   go_wp2_with fail
   go_ret
   exact ⟨_,rfl,Kd.N_nil _ _ _ _ _,HB2.out⟩
 | some t=>
   refine (walkI_calls (items_see HA.out g (by rw [HGE.out];exact Nat.le_refl _)) HT.out.g.ok t root 0 [] (fun k=>k=g\/some k=(Value.slice none 0 0).ownBlock) w1 (by have h1:t.h<=2048:=HT.out.good.h_le;omega) (okW_items t root [] 0 HT.out.at_ (by have h1:t.leaves.length<=1000000:=HL.out;simpa using h1)) HT.out.at_ ⟨HB1.out,_,HG1.out,Kd.N_nil _ _ _ _ _,rfl⟩).mono ?_
   rintro e w2 ⟨rfl,O,⟨hB,v,hc,hN,hO⟩,hk,hgr⟩
   rw [walkS_items t root [] 0 HT.out.at_] at hN
   have HB2:=z_ hB
   have HN:=z_ hN
   obtain ⟨A',m',rfl⟩:=Kd.N_slice hN
   have k0:=blk_cell hc 0
   clear hB hc hO hk hgr hN
   obtain ⟨kl,hkl⟩ : ∃kl,kl=([]++t.leaves.map sOf).length:=⟨_,rfl⟩
   rw [<-hkl] at k0 HN
   clear hkl
   simp at k0
   go_wp2_with fail
   go_ret
   exact ⟨_,rfl,Kd.N_mono HN.out (fun k hk=>hk.1),HB2.out⟩
structure PidAt (W:World) (g:Nat) (Z:Nat->Prop) (pid:List Int):Prop where
 mem : ∃A c y1 s,W.heap[g]? = some (.cells #[.slice A pid.length c,y1,.int .i64 s] 59 (0,0))/\BX W Z (.slice A pid.length c) pid
 ok:BytesOk pid
theorem PidAt.below {W W1:World} {g:Nat} {Z:Nat->Prop} {pid:List Int} (h:PidAt W g Z pid) (hb:Below W.heap.size W W1):PidAt W1 g Z pid:=by
 obtain ⟨A,c,y1,s,h1,h2⟩:=h.mem
 exact ⟨⟨A,c,y1,s,blk_below h1 hb,Kd.V_below h2 hb⟩,h.ok⟩
theorem PidAt.kept {W W1:World} {g:Nat} {S:Nat->Prop} {pid:List Int} (h:PidAt W g (fun k=>¬S k) pid) (hg : ¬S g) (hk:Kept W W1 S):PidAt W1 g (fun k=>¬S k) pid:=by
 obtain ⟨A,c,y1,s,h1,h2⟩:=h.mem
 exact ⟨⟨A,c,y1,s,(hk.2 g (blk_lt h1) hg).trans h1,Kd.V_step h2 (fun k hz hl=>hk.2 k hl hz)⟩,h.ok⟩
theorem N_clear {α:Type} {d:Kd α} {e:Nat} {W:World} {base:Nat} {ok:Nat->Prop} {g n c i:Nat} {xs:List α} (h:Kd.N d e W base ok (.slice (some ⟨g,0,none⟩) n c) xs) (hi:i<=xs.length) (vs:List Value) (hvs:i*d.sz+vs.length<=c*d.sz):
 Kd.N d e (W.setCells g (i*d.sz) vs) base ok (.slice (some ⟨g,0,none⟩) i c) (xs.take i):=by
 obtain ⟨h0,rows,hl,⟨h1,inner,ho,hr⟩,hf⟩:=Kd.N_take h hi
 obtain ⟨ho1,ho2|⟨g',cap,cur,hv,hb,hg,h3,h4,h5,h6⟩⟩:=ho
 ·cases ho2.1
 ·injection hv with e1 e2 e3
  injection e1 with e1
  injection e1 with e1
  subst e1 e3
  obtain ⟨cur',h7,h8,h9⟩:=setCells_row vs (i*d.sz) W cur hg (by rw [h5];exact hvs)
  have hlt:(xs.take i).length=i:=by rw [List.length_take];omega
  refine ⟨h0,rows,hl,⟨h1,inner,⟨ho1,.inr ⟨g,c,cur',by rw [e2],hb,h7,h3,h4,by rw [h8,h5],?_⟩⟩,hr⟩,fun j x q hx hq=>Kd.FK_step (hf j x q hx hq) (fun k hk _=>setCells_far vs (i*d.sz) k (fun he=>hk.2 (by rw [he];rfl)))⟩
  have hrl:rows.length=i:=hl.trans hlt
  have hle:i*d.sz<=cur.toList.length:=by
   rw [Array.length_toList,h5]
   exact Nat.mul_le_mul_right d.sz (by omega)
  show List.take (rows.length*d.sz) cur'.toList=inner
  rw [<-h6,hrl,h9,List.append_assoc,List.take_append_of_le_length (by rw [List.length_take];omega),List.take_take,Nat.min_self]
  rfl
theorem N_cells {α:Type} {d:Kd α} {e:Nat} {W:World} {base:Nat} {ok:Nat->Prop} {g n c:Nat} {xs:List α} (h:Kd.N d e W base ok (.slice (some ⟨g,0,none⟩) n c) xs) : ∃cur,W.heap[g]? = some (.cells cur e (0,0))/\cur.size=c*d.sz/\n<=c:=by
 obtain ⟨h0,rows,hl,⟨h1,inner,⟨ho1,ho2|⟨g',cap,cur,hv,hb,hg,h3,h4,h5,h6⟩⟩,hr⟩,hf⟩:=h
 ·cases ho2.1
 ·injection hv with e1 e2 e3
  injection e1 with e1
  injection e1 with e1
  subst e1 e3
  exact ⟨cur,hg,h5,by rw [e2];exact h3⟩
end Go.Proofs.YtdeneoknjeegbaaDoor.P
end
