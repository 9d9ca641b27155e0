/- Lemmas of this claim, part 16. -/
import Derived.Test.YtdeneoknjeegbaaGreatDoorPartPtreeLives15
import Derived.Test.YtdeneoknjeegbaaGreatDoorPartPtreeLives10
import Derived.Test.YtdeneoknjeegbaaGreatDoorPartPtreeLives1
set_option linter.unusedVariables false
set_option linter.unusedSimpArgs false
section
namespace Go.Proofs.YtdeneoknjeegbaaGreatDoor.P
open Go Go.RowKit YtdeneoknjeegbaaGreatDoor.Pure YtdeneoknjeegbaaGreatDoorW.PrintWords YtdeneoknjeegbaaGreatDoorW.PrintLast YtdeneoknjeegbaaGreatDoorW.PrintMore
structure SeeB {β:Type} (fn:FuncId) (g:Nat) (base p:Nat) (size room:Int) (vc vf:Value) (X Y:Nat->Prop) (cs:Cs) (I:β->(Nat->Prop)->World->Prop) (step:β->Nd->Nat->β) (ok:β->Nd->Nat->Prop):Prop where
 arena : ∀b O W,I b O W->ArenaM W base p size room vc vf X cs
 lt : ∀b O W k,I b O W->O k->k<W.heap.size
 sep : ∀b O W k,I b O W->X k->¬O k
 below : ∀b O W W',I b O W->Below W.heap.size W W'->I b O W'
 yx : ∀k,X k->Y k
 yfresh : ∀b O W k,I b O W->W.heap.size<=k->Y k
 see : ∀b O W (n:Nd) (D1 D2 D5 D9:Option Addr) (d1 d2 d5 d9:Nat) (above:Nat),above<=100000->ok b n above->I b O W->BX W (fun k=>Y k/\k<W.heap.size/\¬O k) (.slice D1 n.f1.length d1) n.f1->BX W (fun k=>Y k/\k<W.heap.size/\¬O k) (.slice D2 n.f2.length d2) n.f2->
  Calls Tryz.prog fn #[.agg #[.bool n.f0,.slice D1 n.f1.length d1,.slice D2 n.f2.length d2,.int .i64 n.f3,.int .i64 n.f4,.slice D5 n.f5.length d5,.int .i64 n.f6,.int .i64 n.f7,.int .i64 n.f8,.slice D9 n.f9.length d9],.int .i64 (above:Int),.pointer (some ⟨g,0,none⟩)] W fun e W'=>e = .returned (.tuple #[])/\∃O',I (step b n above) O' W'/\Kept W W' O/\Grew W O O'
def okW {β:Type} (ok:β->Nd->Nat->Prop) (step:β->Nd->Nat->β):β->PT->Nat->Prop
 | b,.leaf n,a=>ok b n a
 | b,.fork n l r,a=>ok b n a/\okW ok step (step b n a) l (a+1)/\okW ok step (walkS step (step b n a) l (a+1)) r (a+1)
set_option maxHeartbeats 8000000 in
set_option maxRecDepth 100000 in
theorem walkI_calls {β:Type} {g base p:Nat} {size room:Int} {vc vf:Value} {X:Nat->Prop} {cs:Cs} {I:β->(Nat->Prop)->World->Prop} {step:β->Nd->Nat->β} {ok:β->Nd->Nat->Prop} {Y:Nat->Prop} (hP:SeeB 69 g base p size room vc vf X Y cs I step ok) (hcs:CsOk cs) (t:PT):
 ∀(i:Int) (above:Nat) (b:β) (O:Nat->Prop) (W:World),t.h+above<=100000->okW ok step b t above->IsT cs i t->I b O W->
  Calls Tryz.prog 68 #[.pointer (some ⟨p,0,none⟩),.int .i64 i,.int .i64 (above:Int),.func (.func 69) #[] #[.pointer (some ⟨g,0,none⟩)]] W fun e W'=>e = .returned (.tuple #[])/\∃O',I (walkS step b t above) O' W'/\Kept W W' O/\Grew W O O':=by
 have HP:=z_ hP
 have HCS:=z_ hcs
 clear hP hcs
 induction t with
 | leaf n=>
   intro i above b O W hh hok hT hI
   have HOK:=z_ hok
   clear hok
   have HT:=z_ hT
   have HI:=z_ hI
   have HH:=z_ hh
   have hf0:n.f0=true:=hT.2
   have HNA:=z_ (show nodeAt cs i=some n from hT.1)
   clear hT hI hh
   go_enter Tryz.func68,Tryz.ntmps68
   go_wp2_with fail
   refine (nodeA_calls (HP.out.arena _ _ _ HI.out) i (fun m hm=>(HCS.out.at i m hm).1)).mono ?_
   rintro e w1 ⟨hN,hb⟩
   rw [HNA.out] at hN
   obtain ⟨D1,D2,D5,D9,d1,d2,d5,d9,rfl,x1,x2,x5,x9⟩:=hN
   have HB1:=z_ hb
   have HLT:=z_ (show ∀k,O k->k<W.heap.size from fun k hk=>HP.out.lt _ _ _ k HI.out hk)
   have HX:=z_ (show BX w1 (fun k=>(X k\/W.heap.size<=k)/\k<w1.heap.size) (.slice D1 n.f1.length d1) n.f1/\BX w1 (fun k=>(X k\/W.heap.size<=k)/\k<w1.heap.size) (.slice D2 n.f2.length d2) n.f2 from ⟨Kd.V_bound x1,Kd.V_bound x2⟩)
   rw [hf0]
   clear x1 x2 x5 x9 hb
   obtain ⟨w2,hw2⟩ : ∃w2,w2=w1.alloc (.cells #[.bool true,.slice D1 n.f1.length d1,.slice D2 n.f2.length d2,.int .i64 n.f3,.int .i64 n.f4,.slice D5 n.f5.length d5,.int .i64 n.f6,.int .i64 n.f7,.int .i64 n.f8,.slice D9 n.f9.length d9] 59):=⟨_,rfl⟩
   have HN2:=z_ (show NdB w2 w1.heap.size [.bool true,.slice D1 n.f1.length d1,.slice D2 n.f2.length d2,.int .i64 n.f3,.int .i64 n.f4,.slice D5 n.f5.length d5,.int .i64 n.f6,.int .i64 n.f7,.int .i64 n.f8,.slice D9 n.f9.length d9] from by rw [hw2];exact heap_alloc_new w1 _)
   have HB2:=z_ (show Below w1.heap.size w1 w2 from by rw [hw2];exact below_alloc (Below.refl _ _) _)
   go_wp2_with fail
   rw [<-hw2]
   clear hw2
   obtain ⟨g1,hg1⟩ : ∃x,x=w1.heap.size:=⟨_,rfl⟩
   rw [<-hg1] at HN2
   rw [<-hg1]
   have HG1:=z_ hg1
   clear hg1
   have HI2:=z_ (HP.out.below _ _ _ _ HI.out (below_step HB1.out HB2.out))
   have HB:=z_ (below_step HB1.out HB2.out)
   have hsee:=HP.out.see b O w2 n D1 D2 D5 D9 d1 d2 d5 d9 above (by have:=HH.out;omega) HOK.out HI2.out (Kd.V_mono (Kd.V_below HX.out.1 HB2.out) (fun k hk=>⟨hk.1.elim (HP.out.yx k) (HP.out.yfresh _ _ _ k HI.out),by have:=HB2.out.size;omega,fun ho=>by have:=HLT.out k ho;rcases hk.1 with h|h;exact HP.out.sep _ _ _ k HI.out h ho;omega⟩)) (Kd.V_mono (Kd.V_below HX.out.2 HB2.out) (fun k hk=>⟨hk.1.elim (HP.out.yx k) (HP.out.yfresh _ _ _ k HI.out),by have:=HB2.out.size;omega,fun ho=>by have:=HLT.out k ho;rcases hk.1 with h|h;exact HP.out.sep _ _ _ k HI.out h ho;omega⟩))
   rw [hf0] at hsee
   refine hsee.mono ?_
   rintro e w3 ⟨rfl,O1,hI3,hk3,hg3⟩
   have HI3:=z_ hI3
   have HK3:=z_ (And.intro hk3 hg3)
   have HGO:=z_ (show ∀Q:Nat->Prop,Grew w2 O Q->¬Q g1 from fun Q hQ ho=>by
    have h1:=HB1.out.size
    have h2:=HG1.out
    have h3:=blk_lt HN2.out
    rcases hQ g1 ho with h|h
    ·have:=HLT.out g1 h
     omega
    ·omega)
   have HN3:=z_ (show NdB w3 g1 [.bool true,.slice D1 n.f1.length d1,.slice D2 n.f2.length d2,.int .i64 n.f3,.int .i64 n.f4,.slice D5 n.f5.length d5,.int .i64 n.f6,.int .i64 n.f7,.int .i64 n.f8,.slice D9 n.f9.length d9] from (hk3.2 g1 (blk_lt HN2.out) (HGO.out O (Grew.refl _ _))).trans HN2.out)
   clear hsee hI3 hk3 hg3
   obtain ⟨m0,m1,m2,m3,m4,m5,m6,m7,m8,m9⟩:=HN3.out.cells
   go_wp2_with fail
   go_end0
   exact ⟨rfl,O1,HI3.out,⟨by have:=HB.out.size;have:=HK3.out.1.1;omega,fun k hk ho=>(HK3.out.1.2 k (by have:=HB.out.size;omega) ho).trans (HB.out.block k hk)⟩,fun k hk=>(HK3.out.2 k hk).imp (fun x=>x) (fun h=>by have:=HB.out.size;omega)⟩
 | fork n l r ihl ihr=>
   intro i above b O W hh hok hT hI
   have HOK:=z_ hok
   clear hok
   have HT:=z_ hT
   have HI:=z_ hI
   have HH:=z_ hh
   have hf0:n.f0=false:=hT.2.1
   have HNA:=z_ (show nodeAt cs i=some n from hT.1)
   clear hT hI hh
   go_enter Tryz.func68,Tryz.ntmps68
   go_wp2_with fail
   refine (nodeA_calls (HP.out.arena _ _ _ HI.out) i (fun m hm=>(HCS.out.at i m hm).1)).mono ?_
   rintro e w1 ⟨hN,hb⟩
   rw [HNA.out] at hN
   obtain ⟨D1,D2,D5,D9,d1,d2,d5,d9,rfl,x1,x2,x5,x9⟩:=hN
   have HB1:=z_ hb
   have HLT:=z_ (show ∀k,O k->k<W.heap.size from fun k hk=>HP.out.lt _ _ _ k HI.out hk)
   have HX:=z_ (show BX w1 (fun k=>(X k\/W.heap.size<=k)/\k<w1.heap.size) (.slice D1 n.f1.length d1) n.f1/\BX w1 (fun k=>(X k\/W.heap.size<=k)/\k<w1.heap.size) (.slice D2 n.f2.length d2) n.f2 from ⟨Kd.V_bound x1,Kd.V_bound x2⟩)
   rw [hf0]
   clear x1 x2 x5 x9 hb
   obtain ⟨w2,hw2⟩ : ∃w2,w2=w1.alloc (.cells #[.bool false,.slice D1 n.f1.length d1,.slice D2 n.f2.length d2,.int .i64 n.f3,.int .i64 n.f4,.slice D5 n.f5.length d5,.int .i64 n.f6,.int .i64 n.f7,.int .i64 n.f8,.slice D9 n.f9.length d9] 59):=⟨_,rfl⟩
   have HN2:=z_ (show NdB w2 w1.heap.size [.bool false,.slice D1 n.f1.length d1,.slice D2 n.f2.length d2,.int .i64 n.f3,.int .i64 n.f4,.slice D5 n.f5.length d5,.int .i64 n.f6,.int .i64 n.f7,.int .i64 n.f8,.slice D9 n.f9.length d9] from by rw [hw2];exact heap_alloc_new w1 _)
   have HB2:=z_ (show Below w1.heap.size w1 w2 from by rw [hw2];exact below_alloc (Below.refl _ _) _)
   go_wp2_with fail
   rw [<-hw2]
   clear hw2
   obtain ⟨g1,hg1⟩ : ∃x,x=w1.heap.size:=⟨_,rfl⟩
   rw [<-hg1] at HN2
   rw [<-hg1]
   have HG1:=z_ hg1
   clear hg1
   have HI2:=z_ (HP.out.below _ _ _ _ HI.out (below_step HB1.out HB2.out))
   have HB:=z_ (below_step HB1.out HB2.out)
   have hsee:=HP.out.see b O w2 n D1 D2 D5 D9 d1 d2 d5 d9 above (by have:=HH.out;omega) HOK.out.1 HI2.out (Kd.V_mono (Kd.V_below HX.out.1 HB2.out) (fun k hk=>⟨hk.1.elim (HP.out.yx k) (HP.out.yfresh _ _ _ k HI.out),by have:=HB2.out.size;omega,fun ho=>by have:=HLT.out k ho;rcases hk.1 with h|h;exact HP.out.sep _ _ _ k HI.out h ho;omega⟩)) (Kd.V_mono (Kd.V_below HX.out.2 HB2.out) (fun k hk=>⟨hk.1.elim (HP.out.yx k) (HP.out.yfresh _ _ _ k HI.out),by have:=HB2.out.size;omega,fun ho=>by have:=HLT.out k ho;rcases hk.1 with h|h;exact HP.out.sep _ _ _ k HI.out h ho;omega⟩))
   rw [hf0] at hsee
   refine hsee.mono ?_
   rintro e w3 ⟨rfl,O1,hI3,hk3,hg3⟩
   have HI3:=z_ hI3
   have HK3:=z_ (And.intro hk3 hg3)
   have HGO:=z_ (show ∀Q:Nat->Prop,Grew w2 O Q->¬Q g1 from fun Q hQ ho=>by
    have h1:=HB1.out.size
    have h2:=HG1.out
    have h3:=blk_lt HN2.out
    rcases hQ g1 ho with h|h
    ·have:=HLT.out g1 h
     omega
    ·omega)
   have HN3:=z_ (show NdB w3 g1 [.bool false,.slice D1 n.f1.length d1,.slice D2 n.f2.length d2,.int .i64 n.f3,.int .i64 n.f4,.slice D5 n.f5.length d5,.int .i64 n.f6,.int .i64 n.f7,.int .i64 n.f8,.slice D9 n.f9.length d9] from (hk3.2 g1 (blk_lt HN2.out) (HGO.out O (Grew.refl _ _))).trans HN2.out)
   clear hsee hI3 hk3 hg3
   obtain ⟨m0,m1,m2,m3,m4,m5,m6,m7,m8,m9⟩:=HN3.out.cells
   have hw1:wrap64 ((above:Int)+1)=((above+1:Nat):Int):=by rw [wrap64_id _ (by have:=HH.out;omega)];omega
   have HHL:=z_ (show l.h+(above+1)<=100000/\r.h+(above+1)<=100000 from by have h1:max l.h r.h+1+above<=100000:=HH.out;omega)
   go_wp2_with fail
   try rw [hw1]
   try rw [show (above:Int)+1=((above+1:Nat):Int) from by omega]
   refine (ihl n.f7 (above+1) (step b n above) O1 w3 HHL.out.1 HOK.out.2.1 HT.out.2.2.1 HI3.out).mono ?_
   rintro e w4 ⟨rfl,O2,hI4,hk4,hg4⟩
   have HI4:=z_ hI4
   have HK4:=z_ (And.intro hk4 hg4)
   have HG24:=z_ (show Grew w2 O O2 from HK3.out.2.trans hg4 HK3.out.1.1)
   have HN4:=z_ (show NdB w4 g1 [.bool false,.slice D1 n.f1.length d1,.slice D2 n.f2.length d2,.int .i64 n.f3,.int .i64 n.f4,.slice D5 n.f5.length d5,.int .i64 n.f6,.int .i64 n.f7,.int .i64 n.f8,.slice D9 n.f9.length d9] from (hk4.2 g1 (blk_lt HN3.out) (HGO.out O1 HK3.out.2)).trans HN3.out)
   clear hI4 hk4 hg4 m0 m1 m2 m3 m4 m5 m6 m7 m8 m9
   obtain ⟨m0,m1,m2,m3,m4,m5,m6,m7,m8,m9⟩:=HN4.out.cells
   go_wp2_with fail
   try rw [hw1]
   try rw [show (above:Int)+1=((above+1:Nat):Int) from by omega]
   refine (ihr n.f8 (above+1) _ O2 w4 HHL.out.2 HOK.out.2.2 HT.out.2.2.2 HI4.out).mono ?_
   rintro e w5 ⟨rfl,O3,hI5,hk5,hg5⟩
   have HI5:=z_ hI5
   have HK5:=z_ (And.intro hk5 hg5)
   clear hI5 hk5 hg5 m0 m1 m2 m3 m4 m5 m6 m7 m8 m9
   go_wp2_with fail
   go_end0
   have h1:=HB.out.size
   have h2:=HK3.out.1.1
   have h3:=HK4.out.1.1
   have h4:=HK5.out.1.1
   have n1 : ∀k,k<W.heap.size->¬O k->¬O1 k:=fun k hk ho h=>(HK3.out.2 k h).elim ho (fun h=>by omega)
   have n2 : ∀k,k<W.heap.size->¬O k->¬O2 k:=fun k hk ho h=>(HG24.out k h).elim ho (fun h=>by omega)
   exact ⟨rfl,O3,HI5.out,⟨by omega,fun k hk ho=>(HK5.out.1.2 k (by omega) (n2 k hk ho)).trans ((HK4.out.1.2 k (by omega) (n1 k hk ho)).trans ((HK3.out.1.2 k (by omega) ho).trans (HB.out.block k hk)))⟩,fun k hk=>((HG24.out.trans HK5.out.2 (by omega)) k hk).imp (fun x=>x) (fun h=>by omega)⟩
def itOf (n:Nd):S40:=⟨n.f1,n.f2,n.f3⟩
def ItmI (X:Nat->Prop) (w:World) (g:Nat) (l:List S40) (O:Nat->Prop) (W:World):Prop:=Below w.heap.size w W/\∃v,W.heap[g]? = some (.cells #[v] 80 (0,0))/\Kd.N k40 40 W w.heap.size (fun k=>(X k\/w.heap.size<=k)/\k≠g) v l/\O=(fun k=>k=g\/some k=v.ownBlock)
def itmStep (l:List S40) (n:Nd) (_:Nat):List S40:=if n.f0 then l++[itOf n] else l
def itm_T2:Bool×List (List Nat×List Nat):=(true,[([],[]),([],[]),([1],[1]),([2],[2]),([0,3,2],[0,3]),([4,4,0,1,2,3,4],[4])])
def itm_B2:List Nat:=[0,0,2,6,15,31]
theorem itm_tab2:rtab .any (opsOf Tryz.f69 2)=itm_T2:=by kernel_rfl
theorem itm_bits2:waitsOk itm_T2.2 itm_B2=true:=by kernel_rfl
set_option maxHeartbeats 4000000 in
set_option maxRecDepth 100000 in
theorem items_see {w:World} {base p:Nat} {size room:Int} {vc vf:Value} {X:Nat->Prop} {cs:Cs} (h:ArenaM w base p size room vc vf X cs) (g:Nat) (hg:w.heap.size<=g):SeeB 69 g base p size room vc vf X (fun k=>X k\/w.heap.size<=k) cs (ItmI X w g) itmStep (fun l _ _=>l.length<1000000):=by
 refine ⟨fun b O W hI=>h.below hI.1,fun b O W k hI ho=>?_,fun b O W k hI hx ho=>?_,fun b O W W' hI hb=>?_,fun k hk=>.inl hk,fun b O W k hI hk=>.inr (Nat.le_trans hI.1.size hk),?_⟩
 ·obtain ⟨_,v,hc,hN,rfl⟩:=hI
  rcases ho with rfl|ho
  ·exact blk_lt hc
  ·exact Kd.N_lt hN k ho.symm
 ·obtain ⟨_,v,hc,hN,rfl⟩:=hI
  have h1:=(h.sep k hx).1
  rcases ho with rfl|ho
  ·omega
  ·have:=Kd.N_base hN k ho.symm
   omega
 ·obtain ⟨h1,v,hc,hN,rfl⟩:=hI
  exact ⟨below_step h1 hb,v,blk_below hc hb,Kd.N_below hN hb,rfl⟩
 ·rintro l O W n D1 D2 D5 D9 d1 d2 d5 d9 above ha hok ⟨hB,v,hc,hN,rfl⟩ x1 x2
  have HB:=z_ hB
  have HC:=z_ hc
  have HNN0:=z_ hN
  have HX:=z_ (And.intro h (And.intro hg (And.intro x1 x2)))
  have HL:=z_ (show l.length<1000000 from hok)
  clear h hg x1 x2 hB hc hN hok
  unfold itmStep
  obtain ⟨f0,hf0⟩ : ∃b,b=n.f0:=⟨_,rfl⟩
  rw [<-hf0]
  clear hf0
  cases f0 with
  | false=>
    rw [if_neg (by decide)]
    obtain ⟨w1,hw1⟩ : ∃w1,w1=W.alloc (.cells #[.bool false,.slice D1 n.f1.length d1,.slice D2 n.f2.length d2,.int .i64 n.f3,.int .i64 n.f4,.slice D5 n.f5.length d5,.int .i64 n.f6,.int .i64 n.f7,.int .i64 n.f8,.slice D9 n.f9.length d9] 59):=⟨_,rfl⟩
    have HB1:=z_ (show Below W.heap.size W w1 from by rw [hw1];exact below_alloc (Below.refl _ _) _)
    go_enter Tryz.func69,Tryz.ntmps69
    go_wp2_with fail
    rw [<-hw1]
    clear hw1
    go_end0
    exact ⟨rfl,_,⟨below_step HB.out HB1.out,v,blk_below HC.out HB1.out,Kd.N_below HNN0.out HB1.out,rfl⟩,⟨HB1.out.size,fun k hk _=>HB1.out.block k hk⟩,Grew.refl _ _⟩
  | true=>
    rw [if_pos rfl]
    obtain ⟨w1,hw1⟩ : ∃w1,w1=W.alloc (.cells #[.bool true,.slice D1 n.f1.length d1,.slice D2 n.f2.length d2,.int .i64 n.f3,.int .i64 n.f4,.slice D5 n.f5.length d5,.int .i64 n.f6,.int .i64 n.f7,.int .i64 n.f8,.slice D9 n.f9.length d9] 59):=⟨_,rfl⟩
    have HB1:=z_ (show Below W.heap.size W w1 from by rw [hw1];exact below_alloc (Below.refl _ _) _)
    have HN1:=z_ (show NdB w1 W.heap.size [.bool true,.slice D1 n.f1.length d1,.slice D2 n.f2.length d2,.int .i64 n.f3,.int .i64 n.f4,.slice D5 n.f5.length d5,.int .i64 n.f6,.int .i64 n.f7,.int .i64 n.f8,.slice D9 n.f9.length d9] from by rw [hw1];exact heap_alloc_new W _)
    have HC1:=z_ (blk_below HC.out HB1.out)
    go_enter Tryz.func69,Tryz.ntmps69
    go_wp2_with fail
    rw [<-hw1]
    clear hw1
    obtain ⟨g1,hg1⟩ : ∃x,x=W.heap.size:=⟨_,rfl⟩
    rw [<-hg1] at HN1
    rw [<-hg1]
    have HG1:=z_ hg1
    clear hg1
    refine start_ (n:=6) (S:=fun w'=>w'.heap[g]? = some (.cells #[v] 80 (0,0))/\NdB w' g1 [.bool true,.slice D1 n.f1.length d1,.slice D2 n.f2.length d2,.int .i64 n.f3,.int .i64 n.f4,.slice D5 n.f5.length d5,.int .i64 n.f6,.int .i64 n.f7,.int .i64 n.f8,.slice D9 n.f9.length d9]) (ds:=[5]) (bt_ 6 0) (by kernel_rfl) rfl rfl ?hs0 (fun hHeld=>?_)
    case hs0=>exact ⟨HC1.out,HN1.out⟩
    refine with_tabW itm_tab2 itm_bits2 (fun HT_ HW_=>?_)
    have HD2:=z_ (show Below w1.heap.size w1 w1.drew from below_drew (Below.refl _ _))
    generalize hgw:w1.drew=w2 at HD2 hHeld ⊢
    clear hgw
    have HW2:=z_ (below_step HB1.out HD2.out)
    have HB2:=z_ (below_step HB.out HW2.out)
    have HC2:=z_ (blk_below HC1.out HD2.out)
    have HN2:=z_ (HN1.out.below HD2.out)
    refine take_ (i:=0) (N:=some 7) (v:=?_) (a':=?_) (bt_ 6 1) rfl rfl (take_ofW HT_.out HW_.out (by kernel_rfl)) (fun _ _ _ h=>h) (Or.inl ⟨by rfl,?_⟩) hHeld ?_ ?_
    rotate_left
    ·rintro w' s0
     have k0:=blk_cell s0.1 0
     simp at k0
     go_simp
     with_reducible rfl
    rotate_left
    ·simp only [pq_]
     rfl
    refine take_ (i:=1) (N:=some 8) (v:=?_) (a':=?_) (bt_ 6 3) rfl rfl (take_ofW HT_.out HW_.out (by kernel_rfl)) (fun _ _ _ h=>h) (Or.inl ⟨by rfl,?_⟩) hHeld ?_ ?_
    rotate_left
    ·rintro w' s0
     obtain ⟨m0,m1,m2,m3,m4,m5,m6,m7,m8,m9⟩:=NdB.cells s0.2
     go_simp
     with_reducible rfl
    rotate_left
    ·simp only [pq_]
     rfl
    refine one_ (i:=2) (N:=some 9) (bt_ 6 7) rfl rfl (one_of HT_.out (by kernel_rfl)) (by decide) (fun K hK=>?_)
    refine goes_ Tryz.func37 (by kernel_rfl) rfl #[.agg #[.bool true,.slice D1 n.f1.length d1,.slice D2 n.f2.length d2,.int .i64 n.f3,.int .i64 n.f4,.slice D5 n.f5.length d5,.int .i64 n.f6,.int .i64 n.f7,.int .i64 n.f8,.slice D9 n.f9.length d9]] (by rfl) rfl rfl (by (try simp only [List.map_toArray,List.map_cons,List.map_nil]);first|done|rfl) ?_
    with_reducible refine (item_calls w2 _ _ _ _ _ _ _ D1 D2 n.f1.length d1 n.f2.length d2 n.f3).mono ?_
    rintro e w3 ⟨rfl,hb⟩
    have HB3:=z_ (below_step HB2.out hb)
    have HC3:=z_ (blk_below HC2.out hb)
    have HN3:=z_ (HN2.out.below hb)
    have HW3:=z_ (show Below W.heap.size W w3 from below_step HW2.out hb)
    clear hb
    have HNN:=z_ (Kd.N_below HNN0.out HW3.out)
    have HNE:=z_ (show some g1≠v.ownBlock from fun he=>by have:=Kd.N_lt HNN0.out g1 he.symm;have:=HG1.out;omega)
    have HP:=z_ (show Kd.FK k40 w3 (fun k=>((X k\/w.heap.size<=k)/\k≠g)/\some k≠v.ownBlock) (itOf n) [.slice D1 n.f1.length d1,.slice D2 n.f2.length d2,.int .i64 n.f3] from by
     have y1:=Kd.V_mono (Kd.V_below HX.out.2.2.1 HW3.out) (ok':=fun k=>((X k\/w.heap.size<=k)/\k≠g)/\some k≠v.ownBlock) (fun k hk=>⟨⟨hk.1,fun h=>hk.2.2 (.inl h)⟩,fun h=>hk.2.2 (.inr h)⟩)
     have y2:=Kd.V_mono (Kd.V_below HX.out.2.2.2 HW3.out) (ok':=fun k=>((X k\/w.heap.size<=k)/\k≠g)/\some k≠v.ownBlock) (fun k hk=>⟨⟨hk.1,fun h=>hk.2.2 (.inl h)⟩,fun h=>hk.2.2 (.inr h)⟩)
     exact k40_mkF _ _ (itOf n) (Kd.V_reads' y1).2.1 (Kd.V_F y1) (Kd.V_reads' y2).2.1 (Kd.V_F y2))
    refine ⟨_,rfl,?_⟩
    refine hK.out _ _ ⟨HC3.out,HN3.out⟩ (fun hHeld=>?_)
    clear hK K
    refine norm_ (a':=?_) ?_ ?_
    rotate_left
    ·show Act.put _ (some 9) _=_
     simp only [pq_]
     rfl
    refine one_ (i:=3) (N:=some 10) (bt_ 6 15) rfl rfl (one_of HT_.out (by kernel_rfl)) (by decide) (fun K hK=>?_)
    refine value_ (v:=.slice (some ⟨w3.heap.size,0,none⟩) 1 1) (w1:=w3.alloc (.cells #[.slice D1 n.f1.length d1,.slice D2 n.f2.length d2,.int .i64 n.f3] 40)) (by rfl) rfl ?_ ?_
    ·(go_simp<;>first|rfl|done)
    have hba:Below w3.heap.size w3 (w3.alloc (.cells #[.slice D1 n.f1.length d1,.slice D2 n.f2.length d2,.int .i64 n.f3] 40)):=below_alloc (Below.refl _ _) _
    refine hK.out _ _ ⟨blk_below HC3.out hba,HN3.out.below hba⟩ (fun hHeld=>?_)
    clear hK K
    refine norm_ (a':=?_) ?_ ?_
    rotate_left
    ·show Act.put _ (some 10) _=_
     simp only [pq_]
     rfl
    refine one_ (i:=4) (N:=some 11) (bt_ 6 31) rfl rfl (one_of HT_.out (by kernel_rfl)) (by decide) (fun K hK=>?_)
    refine Kd.N_append_step k40 (w0:=w) w.heap.size (by rfl) (.tmp 7) (.tmp 10) 80 40 (.agg #[.slice none 0 0,.slice none 0 0,.int .i64 0]) 56 rfl Tryz.underlying80 (by kernel_rfl) rfl (by decide) (by omega) v l (itOf n) [.slice D1 n.f1.length d1,.slice D2 n.f2.length d2,.int .i64 n.f3] (fun k=>(X k\/w.heap.size<=k)/\k≠g) (fun k=>((X k\/w.heap.size<=k)/\k≠g)/\some k≠v.ownBlock) rfl rfl ?aP (fun _ hk=>hk) ?aF ?aO ?aB ?aS ?aL ?_
    case aP=>exact HP.out
    case aF=>exact (fun k hk=>⟨.inr (Nat.le_trans HB3.out.size hk),by have:=blk_lt HC3.out;omega⟩)
    case aO=>exact HNN.out
    case aB=>exact HB3.out
    case aS=>exact HB3.out.size
    case aL=>have:=HL.out;omega
    intro v1 w5 ho hb5 hg5 hat
    obtain ⟨A',m',rfl⟩:=Kd.N_slice ho
    obtain ⟨kl,hkl⟩ : ∃kl,kl=(l++[itOf n]).length:=⟨_,rfl⟩
    rw [<-hkl] at ho hat
    rw [<-hkl]
    have HO5:=z_ ho
    have HB5:=z_ hb5
    have HG5:=z_ hg5
    have HAT:=z_ hat
    have HC5:=z_ (show w5.heap[g]? = some (.cells #[v] 80 (0,0)) from (hg5.block g (blk_lt HC3.out) (fun he=>(HNN.out.1 g he.symm).2 rfl)).trans HC3.out)
    have HN5:=z_ (show NdB w5 g1 [.bool true,.slice D1 n.f1.length d1,.slice D2 n.f2.length d2,.int .i64 n.f3,.int .i64 n.f4,.slice D5 n.f5.length d5,.int .i64 n.f6,.int .i64 n.f7,.int .i64 n.f8,.slice D9 n.f9.length d9] from (hg5.block g1 (blk_lt HN3.out) HNE.out).trans HN3.out)
    clear ho hb5 hg5 hat hkl
    refine hK.out _ _ ⟨HC5.out,HN5.out⟩ (fun hHeld=>?_)
    clear hK K
    refine norm_ (a':=?_) ?_ ?_
    rotate_left
    ·show Act.put _ (some 11) _=_
     simp only [pq_]
     rfl
    refine last_ (i:=5) (N:=none) (bt_ 6 63) rfl rfl (one_of HT_.out (by kernel_rfl)) (by decide) (fun K hK=>?_)
    obtain ⟨w6,hw6⟩ : ∃w6,w6=w5.setCell ⟨g,0,none⟩ (.slice A' kl m'):=⟨_,rfl⟩
    have HW6:=z_ hw6
    have k3:=blk_cell HC5.out 0
    have kf:=blk_frozen HC5.out 0
    refine skip_ (w1:=w6) (by rfl) rfl ?_ ?_
    ·(go_simp<;>first|rfl|(rw [hw6];rfl)|(subst hw6;rfl))
    clear k3 kf hw6 hHeld
    refine hK.out _ _ ?_
    clear hK K
    refine done_ (done_of HT_.out (by kernel_rfl)) ?_
    go_wp2_with fail
    go_end0
    have hgw:=HX.out.2.1
    have hsz:w5.heap.size<=w6.heap.size:=by rw [HW6.out,World.size_setCell];exact Nat.le_refl _
    have h5:w3.heap.size<=w5.heap.size:=HG5.out.size
    have h3:=HW3.out.size
    refine ⟨rfl,fun k=>k=g\/some k=(Value.slice A' kl m').ownBlock,⟨?_,.slice A' kl m',?_,?_,rfl⟩,⟨by omega,fun k hk ho=>?_⟩,fun k hk=>?_⟩
    ·rw [HW6.out]
     exact Below.setCell HB5.out (by exact hgw) _
    ·rw [HW6.out]
     exact blk_set HC5.out 0 _
    ·rw [HW6.out]
     exact Kd.N_far HO5.out (fun k hk=>hk.2) _
    ·rw [HW6.out]
     exact (Below.heap_setCell _ ⟨g,0,none⟩ _ k (fun h=>ho (.inl h))).trans ((HG5.out.block k (by omega) (fun h=>ho (.inr h))).trans (HW3.out.block k hk))
    ·rcases hk with h|h
     ·exact .inl (.inl h)
     ·rcases HAT.out with h1|⟨b,h1,h2⟩
      ·exact .inl (.inr (h.trans h1))
      ·obtain rfl:k=b:=Option.some.inj (h.trans h1)
       exact .inr (by omega)
def sOf (x:Lf):S40:=⟨x.id,x.key,x.since⟩
theorem walkS_items {cs:Cs} : ∀(t:PT) (i:Int) (l:List S40) (a:Nat),IsT cs i t->walkS itmStep l t a=l++t.leaves.map sOf
 | .leaf n,i,l,a,h=>by
   have h2:n.f0=true:=h.2
   simp only [walkS,itmStep,PT.leaves,h2,if_true]
   rfl
 | .fork n x y,i,l,a,h=>by
   have h2:n.f0=false:=h.2.1
   simp only [walkS,PT.leaves]
   rw [walkS_items x n.f7 _ _ h.2.2.1,walkS_items y n.f8 _ _ h.2.2.2]
   simp only [itmStep,h2]
   simp
theorem okW_items {cs:Cs} : ∀(t:PT) (i:Int) (l:List S40) (a:Nat),IsT cs i t->l.length+t.leaves.length<=1000000->okW (fun l _ _=>l.length<1000000) itmStep l t a
 | .leaf n,i,l,a,h,hl=>by
   show l.length<1000000
   have:(PT.leaf n).leaves.length=1:=rfl
   omega
 | .fork n x y,i,l,a,h,hl=>by
   have h2:n.f0=false:=h.2.1
   have h3:itmStep l n a=l:=by simp [itmStep,h2]
   have h4:(PT.fork n x y).leaves.length=x.leaves.length+y.leaves.length:=by simp [PT.leaves]
   obtain ⟨z,hz⟩:=PT.leaves_ne x
   have h5:=List.length_pos_of_mem hz
   refine ⟨by show l.length<1000000;omega,?_,?_⟩
   ·rw [h3]
    exact okW_items x n.f7 l (a+1) h.2.2.1 (by omega)
   ·rw [h3,walkS_items x n.f7 _ _ h.2.2.1]
    exact okW_items y n.f8 _ (a+1) h.2.2.2 (by rw [List.length_append,List.length_map];omega)
set_option maxRecDepth 100000 in
theorem items_calls {w:World} {base p:Nat} {size room:Int} {vc vf:Value} {X:Nat->Prop} {cs:Cs} (h:ArenaM w base p size room vc vf X cs) (root:Int) (t:Option PT) (ht:TreeIn size cs root t) (hl:(leavesO t).length<=1000000):
 Calls Tryz.prog 42 #[.pointer (some ⟨p,0,none⟩),.int .i64 root] w fun e w'=>∃v,e = .returned v/\Kd.N k40 40 w' w.heap.size (fun k=>X k\/w.heap.size<=k) v ((leavesO t).map sOf)/\Below w.heap.size w w':=by
 have HA:=z_ h
 have HT:=z_ ht
 have HL:=z_ hl
 clear h ht hl
 obtain ⟨w1,hw1⟩ : ∃w1,w1=w.alloc (.cells #[.slice none 0 0] 80):=⟨_,rfl⟩
 have HB1:=z_ (show Below w.heap.size w w1 from by rw [hw1];exact below_alloc (Below.refl _ _) _)
 have HG1:=z_ (show w1.heap[w.heap.size]? = some (.cells #[.slice none 0 0] 80 (0,0)) from by rw [hw1];exact heap_alloc_new w _)
 go_enter Tryz.func42,Tryz.ntmps42
 go_wp2_with fail
 rw [<-hw1]
 clear hw1
 obtain ⟨g,hg⟩ : ∃g,g=w.heap.size:=⟨_,rfl⟩
 rw [<-hg] at HG1
 rw [<-hg]
 have HGE:=z_ hg
 clear hg
 cases t with
 | none=>
   refine (walk_none (HA.out.below HB1.out) root 0 HT.out.at_ _).mono ?_
   rintro e w2 ⟨rfl,hb⟩
   have hc:=blk_below HG1.out hb
   have HB2:=z_ (below_step HB1.out hb)
   clear hb
   have k0:w2.cell? ⟨g,0,none⟩=some (.slice none 0 0):=blk_cell hc 0
   clear hc
   go_wp2_with fail
   go_ret
   exact ⟨_,rfl,Kd.N_nil _ _ _ _ _,HB2.out⟩
 | some t=>
   refine (walkI_calls (items_see HA.out g (by rw [HGE.out];exact Nat.le_refl _)) HT.out.g.ok t root 0 [] (fun k=>k=g\/some k=(Value.slice none 0 0).ownBlock) w1 (by have h1:t.h<=2048:=HT.out.good.h_le;omega) (okW_items t root [] 0 HT.out.at_ (by have h1:t.leaves.length<=1000000:=HL.out;simpa using h1)) HT.out.at_ ⟨HB1.out,_,HG1.out,Kd.N_nil _ _ _ _ _,rfl⟩).mono ?_
   rintro e w2 ⟨rfl,O,⟨hB,v,hc,hN,hO⟩,hk,hgr⟩
   rw [walkS_items t root [] 0 HT.out.at_] at hN
   have HB2:=z_ hB
   have HN:=z_ hN
   obtain ⟨A',m',rfl⟩:=Kd.N_slice hN
   have k0:=blk_cell hc 0
   clear hB hc hO hk hgr hN
   obtain ⟨kl,hkl⟩ : ∃kl,kl=([]++t.leaves.map sOf).length:=⟨_,rfl⟩
   rw [<-hkl] at k0 HN
   clear hkl
   simp at k0
   go_wp2_with fail
   go_ret
   exact ⟨_,rfl,Kd.N_mono HN.out (fun k hk=>hk.1),HB2.out⟩
end Go.Proofs.YtdeneoknjeegbaaGreatDoor.P
end
section
namespace Go.Proofs.YtdeneoknjeegbaaGreatDoor.P
open Go Go.RowKit YtdeneoknjeegbaaGreatDoor.Pure YtdeneoknjeegbaaGreatDoorW.PrintWords YtdeneoknjeegbaaGreatDoorW.PrintLast YtdeneoknjeegbaaGreatDoorW.PrintMore
def rdp4_T:Bool×List (List Nat×List Nat):=(true,[([],[]),([],[]),([1],[1]),([0,2],[0,2]),([],[]),([],[]),([5],[5]),([4,6,3],[4,6]),([3,7],[3,7]),([8],[8]),([9,7,0,1,2,3,4,5,6,7,8,9],[9])])
def rdp4_B:List Nat:=[0,0,2,7,0,0,32,127,255,511,1023]
theorem rdp4_tab:rtab .any (opsOf Tryz.f45 4)=rdp4_T:=by kernel_rfl
theorem rdp4_bits:waitsOk rdp4_T.2 rdp4_B=true:=by kernel_rfl
def rit6_T:Bool×List (List Nat×List Nat):=(true,[([],[]),([],[]),([1],[1]),([0,2],[0,2]),([],[]),([],[]),([5],[5]),([4,6,3],[4,6]),([3,7,7],[3,7]),([8,8,0,1,2,3,4,5,6,7,8],[8])])
def rit6_B:List Nat:=[0,0,2,7,0,0,32,127,255,511]
theorem rit6_tab:rtab .any (opsOf Tryz.f43 6)=rit6_T:=by kernel_rfl
theorem rit6_bits:waitsOk rit6_T.2 rit6_B=true:=by kernel_rfl
theorem max_h {n:Nd} (l r:PT) (h:(PT.fork n l r).h<=100000):wrap64 (1+(if l.h<r.h then (r.h:Int) else (l.h:Int)))=((PT.fork n l r).h:Int):=by
 have h1:(PT.fork n l r).h=max l.h r.h+1:=rfl
 rw [h1] at h ⊢
 rw [wrap64_id _ (by split<;>omega)]
 split<;>omega
attribute [local go_sem] max2_int max_two
set_option maxHeartbeats 8000000 in
set_option maxRecDepth 100000 in
theorem rdeep_calls {base q:Nat} {size most:Int} {vl:Value} {X:Nat->Prop} {cs:Cs} (hcs:CsOk cs) (t:PT) : ∀(root:Int) (w:World),RefM w base q size most vl X cs->IsT cs root t->t.h<=100000->
 Calls Tryz.prog 45 #[.pointer (some ⟨q,0,none⟩),.int .i64 root] w fun e w'=>e = .returned (.int .i64 (t.h:Int))/\Below w.heap.size w w':=by
 have HCS:=z_ hcs
 clear hcs
 induction t with
 | leaf n=>
   intro root w h ht hh
   have HA:=z_ h
   have HN:=z_ ht.1
   have HH:=z_ hh
   have HF:=z_ ht.2
   clear h ht hh
   go_enter Tryz.func45,Tryz.ntmps45
   go_wp2_with fail
   refine (rnode_calls HA.out root (fun m hm=>(HCS.out.at root m hm).1)).mono ?_
   rintro e w1 ⟨hV,hb⟩
   rw [HN.out] at hV
   obtain ⟨D1,D2,D5,D9,d1,d2,d5,d9,rfl,x1,x2,x5,x9⟩:=hV
   rw [HF.out]
   have HB1:=z_ hb
   have HX:=z_ (And.intro x1 x2)
   obtain ⟨w2,hw2⟩ : ∃w2,w2=w1.alloc (.cells #[.bool true,.slice D1 n.f1.length d1,.slice D2 n.f2.length d2,.int .i64 n.f3,.int .i64 n.f4,.slice D5 n.f5.length d5,.int .i64 n.f6,.int .i64 n.f7,.int .i64 n.f8,.slice D9 n.f9.length d9] 59):=⟨_,rfl⟩
   have HB21:=z_ (show Below w1.heap.size w1 w2 from by rw [hw2];exact below_alloc (Below.refl _ _) _)
   have HB2:=z_ (below_step HB1.out HB21.out)
   have HG2:=z_ (show NdB w2 w1.heap.size [.bool true,.slice D1 n.f1.length d1,.slice D2 n.f2.length d2,.int .i64 n.f3,.int .i64 n.f4,.slice D5 n.f5.length d5,.int .i64 n.f6,.int .i64 n.f7,.int .i64 n.f8,.slice D9 n.f9.length d9] from by rw [hw2];exact heap_alloc_new w1 _)
   clear hb x1 x2 x5 x9
   go_wp2_with fail
   rw [<-hw2]
   clear hw2
   go_ret
   exact ⟨rfl,HB2.out⟩
 | fork n l r ihl ihr=>
   intro root w h ht hh
   have HT:=z_ (show IsT cs n.f7 l/\IsT cs n.f8 r from ht.2.2)
   have HI:=z_ (And.intro ihl ihr)
   clear ihl ihr
   have HA:=z_ h
   have HN:=z_ ht.1
   have HH:=z_ hh
   have HF:=z_ ht.2.1
   clear h ht hh
   go_enter Tryz.func45,Tryz.ntmps45
   go_wp2_with fail
   refine (rnode_calls HA.out root (fun m hm=>(HCS.out.at root m hm).1)).mono ?_
   rintro e w1 ⟨hV,hb⟩
   rw [HN.out] at hV
   obtain ⟨D1,D2,D5,D9,d1,d2,d5,d9,rfl,x1,x2,x5,x9⟩:=hV
   rw [HF.out]
   have HB1:=z_ hb
   have HX:=z_ (And.intro x1 x2)
   obtain ⟨w2,hw2⟩ : ∃w2,w2=w1.alloc (.cells #[.bool false,.slice D1 n.f1.length d1,.slice D2 n.f2.length d2,.int .i64 n.f3,.int .i64 n.f4,.slice D5 n.f5.length d5,.int .i64 n.f6,.int .i64 n.f7,.int .i64 n.f8,.slice D9 n.f9.length d9] 59):=⟨_,rfl⟩
   have HB21:=z_ (show Below w1.heap.size w1 w2 from by rw [hw2];exact below_alloc (Below.refl _ _) _)
   have HB2:=z_ (below_step HB1.out HB21.out)
   have HG2:=z_ (show NdB w2 w1.heap.size [.bool false,.slice D1 n.f1.length d1,.slice D2 n.f2.length d2,.int .i64 n.f3,.int .i64 n.f4,.slice D5 n.f5.length d5,.int .i64 n.f6,.int .i64 n.f7,.int .i64 n.f8,.slice D9 n.f9.length d9] from by rw [hw2];exact heap_alloc_new w1 _)
   clear hb x1 x2 x5 x9
   go_wp2_with fail
   rw [<-hw2]
   clear hw2
   obtain ⟨g,hg⟩ : ∃g,g=w1.heap.size:=⟨_,rfl⟩
   rw [<-hg] at HG2
   rw [<-hg]
   clear hg
   have HLH:=z_ (show l.h<=100000/\r.h<=100000 from by
    have h1:(PT.fork n l r).h=max l.h r.h+1:=rfl
    have:=HH.out
    omega)
   refine start_ (n:=11) (S:=fun w'=>NdB w' g [.bool false,.slice D1 n.f1.length d1,.slice D2 n.f2.length d2,.int .i64 n.f3,.int .i64 n.f4,.slice D5 n.f5.length d5,.int .i64 n.f6,.int .i64 n.f7,.int .i64 n.f8,.slice D9 n.f9.length d9]) (ds:=[]) (bt_ 11 0) (by kernel_rfl) rfl rfl ?hs0 (fun hHeld=>?_)
   case hs0=>exact HG2.out.below (below_drew (Below.refl _ _))
   refine with_tabW rdp4_tab rdp4_bits (fun HT_ HW_=>?_)
   have HD3:=z_ (show Below w2.heap.size w2 w2.drew from below_drew (Below.refl _ _))
   generalize hgw:w2.drew=w3 at HD3 hHeld ⊢
   clear hgw
   have HB3:=z_ (below_step HB2.out HD3.out)
   have HG3:=z_ (HG2.out.below HD3.out)
   refine pure_ (i:=0) (N:=some 19) (v:=?_) (a':=?_) (bt_ 11 1) rfl rfl (any_of HT_.out (by kernel_rfl)) (fun _ _ _ h=>h) (Or.inl ⟨by rfl,?_⟩) ?_ ?_
   rotate_left
   ·intro w'
    go_simp
    with_reducible rfl
   rotate_left
   ·simp only [pq_]
    rfl
   refine pure_ (i:=1) (N:=some 20) (v:=?_) (a':=?_) (bt_ 11 3) rfl rfl (any_of HT_.out (by kernel_rfl)) (fun _ _ _ h=>h) (Or.inl ⟨by rfl,?_⟩) ?_ ?_
   rotate_left
   ·intro w'
    go_simp
    with_reducible rfl
   rotate_left
   ·simp only [pq_]
    rfl
   refine take_ (i:=2) (N:=some 21) (v:=?_) (a':=?_) (bt_ 11 7) rfl rfl (take_ofW HT_.out HW_.out (by kernel_rfl)) (fun _ _ _ h=>h) (Or.inl ⟨by rfl,?_⟩) hHeld ?_ ?_
   rotate_left
   ·rintro w' s0
    obtain ⟨m0,m1,m2,m3,m4,m5,m6,m7,m8,m9⟩:=NdB.cells s0
    go_simp
    with_reducible rfl
   rotate_left
   ·simp only [pq_]
    rfl
   refine pure_ (i:=4) (N:=some 23) (v:=?_) (a':=?_) (bt_ 11 23) rfl rfl (any_of HT_.out (by kernel_rfl)) (fun _ _ _ h=>h) (Or.inl ⟨by rfl,?_⟩) ?_ ?_
   rotate_left
   ·intro w'
    go_simp
    with_reducible rfl
   rotate_left
   ·simp only [pq_]
    rfl
   refine pure_ (i:=5) (N:=some 24) (v:=?_) (a':=?_) (bt_ 11 55) rfl rfl (any_of HT_.out (by kernel_rfl)) (fun _ _ _ h=>h) (Or.inl ⟨by rfl,?_⟩) ?_ ?_
   rotate_left
   ·intro w'
    go_simp
    with_reducible rfl
   rotate_left
   ·simp only [pq_]
    rfl
   refine take_ (i:=6) (N:=some 25) (v:=?_) (a':=?_) (bt_ 11 119) rfl rfl (take_ofW HT_.out HW_.out (by kernel_rfl)) (fun _ _ _ h=>h) (Or.inl ⟨by rfl,?_⟩) hHeld ?_ ?_
   rotate_left
   ·rintro w' s0
    obtain ⟨m0,m1,m2,m3,m4,m5,m6,m7,m8,m9⟩:=NdB.cells s0
    go_simp
    with_reducible rfl
   rotate_left
   ·simp only [pq_]
    rfl
   refine one_ (i:=3) (N:=some 22) (bt_ 11 127) rfl rfl (one_of HT_.out (by kernel_rfl)) (by decide) (fun K hK=>?_)
   refine goes_ Tryz.func45 (by kernel_rfl) rfl #[.pointer (some ⟨q,0,none⟩),.int .i64 n.f7] (by rfl) rfl rfl (by (try simp only [List.map_toArray,List.map_cons,List.map_nil]);first|done|rfl) ?_
   with_reducible refine (HI.out.1 n.f7 w3 (HA.out.below HB3.out) HT.out.1 HLH.out.1).mono ?_
   rintro e w4 ⟨rfl,hb⟩
   have HB4:=z_ (below_step HB3.out hb)
   have HG4:=z_ (HG3.out.below hb)
   clear hb
   refine ⟨_,rfl,?_⟩
   refine hK.out _ _ HG4.out (fun hHeld=>?_)
   clear hK K
   refine norm_ (a':=?_) ?_ ?_
   rotate_left
   ·show Act.put _ (some 22) _=_
    simp only [pq_]
    rfl
   refine one_ (i:=7) (N:=some 26) (bt_ 11 255) rfl rfl (one_of HT_.out (by kernel_rfl)) (by decide) (fun K hK=>?_)
   refine goes_ Tryz.func45 (by kernel_rfl) rfl #[.pointer (some ⟨q,0,none⟩),.int .i64 n.f8] (by rfl) rfl rfl (by (try simp only [List.map_toArray,List.map_cons,List.map_nil]);first|done|rfl) ?_
   with_reducible refine (HI.out.2 n.f8 w4 (HA.out.below HB4.out) HT.out.2 HLH.out.2).mono ?_
   rintro e w5 ⟨rfl,hb⟩
   have HB5:=z_ (below_step HB4.out hb)
   have HG5:=z_ (HG4.out.below hb)
   clear hb
   refine ⟨_,rfl,?_⟩
   refine hK.out _ _ HG5.out (fun hHeld=>?_)
   clear hK K
   refine norm_ (a':=?_) ?_ ?_
   rotate_left
   ·show Act.put _ (some 26) _=_
    simp only [pq_]
    rfl
   refine pure_ (i:=8) (N:=some 27) (v:=?_) (a':=?_) (bt_ 11 511) rfl rfl (any_of HT_.out (by kernel_rfl)) (fun _ _ _ h=>h) (Or.inl ⟨by rfl,?_⟩) ?_ ?_
   rotate_left
   ·intro w'
    go_simp
    with_reducible rfl
   rotate_left
   ·simp only [pq_]
    rfl
   refine pure_ (i:=9) (N:=some 28) (v:=?_) (a':=?_) (bt_ 11 1023) rfl rfl (any_of HT_.out (by kernel_rfl)) (fun _ _ _ h=>h) (Or.inl ⟨by rfl,?_⟩) ?_ ?_
   rotate_left
   ·intro w'
    go_simp
    with_reducible rfl
   rotate_left
   ·simp only [pq_]
    rfl
   refine pure_ (i:=10) (N:=some 4) (v:=?_) (a':=?_) (bt_ 11 2047) rfl rfl (any_of HT_.out (by kernel_rfl)) (fun _ _ _ h=>h) (Or.inl ⟨by rfl,?_⟩) ?_ ?_
   rotate_left
   ·intro w'
    go_simp
    with_reducible rfl
   rotate_left
   ·simp only [pq_]
    rfl
   refine done_ (done_of HT_.out (by kernel_rfl)) ?_
   obtain ⟨mv,hmv⟩ : ∃x:Int,x=(if l.h<r.h then (r.h:Int) else (l.h:Int)):=⟨_,rfl⟩
   rw [<-hmv,show wrap64 (1+mv)=((PT.fork n l r).h:Int) from by rw [hmv];exact max_h l r HH.out]
   clear hmv
   go_wp2_with fail
   go_ret
   exact ⟨rfl,HB5.out⟩
set_option maxHeartbeats 8000000 in
set_option maxRecDepth 100000 in
theorem ritems_calls {base q:Nat} {size most:Int} {vl:Value} {X:Nat->Prop} {cs:Cs} (hcs:CsOk cs) (t:PT) : ∀(root:Int) (w:World),RefM w base q size most vl X cs->IsT cs root t->t.leaves.length<=1000000->
 Calls Tryz.prog 43 #[.pointer (some ⟨q,0,none⟩),.int .i64 root] w fun e w'=>∃v,e = .returned v/\Kd.N k40 40 w' w.heap.size (fun k=>w.heap.size<=k) v (t.leaves.map sOf)/\Below w.heap.size w w':=by
 have HCS:=z_ hcs
 clear hcs
 induction t with
 | leaf n=>
   intro root w h ht hh
   have HA:=z_ h
   have HN:=z_ ht.1
   have HH:=z_ hh
   have HF:=z_ ht.2
   clear h ht hh
   go_enter Tryz.func43,Tryz.ntmps43
   go_wp2_with fail
   refine (rnode_calls HA.out root (fun m hm=>(HCS.out.at root m hm).1)).mono ?_
   rintro e w1 ⟨hV,hb⟩
   rw [HN.out] at hV
   obtain ⟨D1,D2,D5,D9,d1,d2,d5,d9,rfl,x1,x2,x5,x9⟩:=hV
   rw [HF.out]
   have HB1:=z_ hb
   have HX:=z_ (And.intro x1 x2)
   obtain ⟨w2,hw2⟩ : ∃w2,w2=w1.alloc (.cells #[.bool true,.slice D1 n.f1.length d1,.slice D2 n.f2.length d2,.int .i64 n.f3,.int .i64 n.f4,.slice D5 n.f5.length d5,.int .i64 n.f6,.int .i64 n.f7,.int .i64 n.f8,.slice D9 n.f9.length d9] 59):=⟨_,rfl⟩
   have HB21:=z_ (show Below w1.heap.size w1 w2 from by rw [hw2];exact below_alloc (Below.refl _ _) _)
   have HB2:=z_ (below_step HB1.out HB21.out)
   have HG2:=z_ (show NdB w2 w1.heap.size [.bool true,.slice D1 n.f1.length d1,.slice D2 n.f2.length d2,.int .i64 n.f3,.int .i64 n.f4,.slice D5 n.f5.length d5,.int .i64 n.f6,.int .i64 n.f7,.int .i64 n.f8,.slice D9 n.f9.length d9] from by rw [hw2];exact heap_alloc_new w1 _)
   clear hb x1 x2 x5 x9
   have HP:=z_ (show Kd.FK k40 w2 (fun k=>w.heap.size<=k) (itOf n) [.slice D1 n.f1.length d1,.slice D2 n.f2.length d2,.int .i64 n.f3] from by
    have y1:=Kd.V_below HX.out.1 HB21.out
    have y2:=Kd.V_below HX.out.2 HB21.out
    exact k40_mkF _ _ (itOf n) (Kd.V_reads' y1).2.1 (Kd.V_F y1) (Kd.V_reads' y2).2.1 (Kd.V_F y2))
   obtain ⟨m0,m1,m2,m3,m4,m5,m6,m7,m8,m9⟩:=HG2.out.cells
   rw [hw2] at m0 m1 m2 m3
   go_wp2_with (first|((with_reducible refine gate_dst (N:=24) rfl ?_);rw [<-hw2];refine Kd.N_lit k40 (w0:=w) w.heap.size 40 ?hg (N':=24) ?hd (xs:=[itOf n]) (inner:=[.slice D1 n.f1.length d1,.slice D2 n.f2.length d2,.int .i64 n.f3]) (ok:=fun k=>w.heap.size<=k) (okp:=fun k=>w.heap.size<=k) ?hr ?hp (fun _ hk=>hk) HB2.out.size HB2.out HB2.out.size (by simp) ?_;(case hd=>rfl);(case hg=>rfl);(case hr=>first|(go_simp;done)|(go_simp;rfl));(case hp=>exact Reps.c3 HP.out (Reps.none _ _));intro v1 w3 hN hb hg_ hat;have HN3:=z_ hN;have HB3:=z_ hb;clear hN hb hg_ hat))
   go_ret
   exact ⟨_,rfl,HN3.out,HB3.out⟩
 | fork n l r ihl ihr=>
   intro root w h ht hh
   have HT:=z_ (show IsT cs n.f7 l/\IsT cs n.f8 r from ht.2.2)
   have HI:=z_ (And.intro ihl ihr)
   clear ihl ihr
   have HA:=z_ h
   have HN:=z_ ht.1
   have HH:=z_ hh
   have HF:=z_ ht.2.1
   clear h ht hh
   go_enter Tryz.func43,Tryz.ntmps43
   go_wp2_with fail
   refine (rnode_calls HA.out root (fun m hm=>(HCS.out.at root m hm).1)).mono ?_
   rintro e w1 ⟨hV,hb⟩
   rw [HN.out] at hV
   obtain ⟨D1,D2,D5,D9,d1,d2,d5,d9,rfl,x1,x2,x5,x9⟩:=hV
   rw [HF.out]
   have HB1:=z_ hb
   have HX:=z_ (And.intro x1 x2)
   obtain ⟨w2,hw2⟩ : ∃w2,w2=w1.alloc (.cells #[.bool false,.slice D1 n.f1.length d1,.slice D2 n.f2.length d2,.int .i64 n.f3,.int .i64 n.f4,.slice D5 n.f5.length d5,.int .i64 n.f6,.int .i64 n.f7,.int .i64 n.f8,.slice D9 n.f9.length d9] 59):=⟨_,rfl⟩
   have HB21:=z_ (show Below w1.heap.size w1 w2 from by rw [hw2];exact below_alloc (Below.refl _ _) _)
   have HB2:=z_ (below_step HB1.out HB21.out)
   have HG2:=z_ (show NdB w2 w1.heap.size [.bool false,.slice D1 n.f1.length d1,.slice D2 n.f2.length d2,.int .i64 n.f3,.int .i64 n.f4,.slice D5 n.f5.length d5,.int .i64 n.f6,.int .i64 n.f7,.int .i64 n.f8,.slice D9 n.f9.length d9] from by rw [hw2];exact heap_alloc_new w1 _)
   clear hb x1 x2 x5 x9
   go_wp2_with fail
   rw [<-hw2]
   clear hw2
   obtain ⟨g,hg⟩ : ∃g,g=w1.heap.size:=⟨_,rfl⟩
   rw [<-hg] at HG2
   rw [<-hg]
   clear hg
   have HLH:=z_ (show l.leaves.length+r.leaves.length<=1000000 from by
    have h1:(l.leaves++r.leaves).length<=1000000:=HH.out
    rwa [List.length_append] at h1)
   refine start_ (n:=10) (S:=fun w'=>NdB w' g [.bool false,.slice D1 n.f1.length d1,.slice D2 n.f2.length d2,.int .i64 n.f3,.int .i64 n.f4,.slice D5 n.f5.length d5,.int .i64 n.f6,.int .i64 n.f7,.int .i64 n.f8,.slice D9 n.f9.length d9]) (ds:=[]) (bt_ 10 0) (by kernel_rfl) rfl rfl ?hs0 (fun hHeld=>?_)
   case hs0=>exact HG2.out.below (below_drew (Below.refl _ _))
   refine with_tabW rit6_tab rit6_bits (fun HT_ HW_=>?_)
   have HD3:=z_ (show Below w2.heap.size w2 w2.drew from below_drew (Below.refl _ _))
   generalize hgw:w2.drew=w3 at HD3 hHeld ⊢
   clear hgw
   have HB3:=z_ (below_step HB2.out HD3.out)
   have HG3:=z_ (HG2.out.below HD3.out)
   refine pure_ (i:=0) (N:=some 25) (v:=?_) (a':=?_) (bt_ 10 1) rfl rfl (any_of HT_.out (by kernel_rfl)) (fun _ _ _ h=>h) (Or.inl ⟨by rfl,?_⟩) ?_ ?_
   rotate_left
   ·intro w'
    go_simp
    with_reducible rfl
   rotate_left
   ·simp only [pq_]
    rfl
   refine pure_ (i:=1) (N:=some 26) (v:=?_) (a':=?_) (bt_ 10 3) rfl rfl (any_of HT_.out (by kernel_rfl)) (fun _ _ _ h=>h) (Or.inl ⟨by rfl,?_⟩) ?_ ?_
   rotate_left
   ·intro w'
    go_simp
    with_reducible rfl
   rotate_left
   ·simp only [pq_]
    rfl
   refine take_ (i:=2) (N:=some 27) (v:=?_) (a':=?_) (bt_ 10 7) rfl rfl (take_ofW HT_.out HW_.out (by kernel_rfl)) (fun _ _ _ h=>h) (Or.inl ⟨by rfl,?_⟩) hHeld ?_ ?_
   rotate_left
   ·rintro w' s0
    obtain ⟨m0,m1,m2,m3,m4,m5,m6,m7,m8,m9⟩:=NdB.cells s0
    go_simp
    with_reducible rfl
   rotate_left
   ·simp only [pq_]
    rfl
   refine pure_ (i:=4) (N:=some 29) (v:=?_) (a':=?_) (bt_ 10 23) rfl rfl (any_of HT_.out (by kernel_rfl)) (fun _ _ _ h=>h) (Or.inl ⟨by rfl,?_⟩) ?_ ?_
   rotate_left
   ·intro w'
    go_simp
    with_reducible rfl
   rotate_left
   ·simp only [pq_]
    rfl
   refine pure_ (i:=5) (N:=some 30) (v:=?_) (a':=?_) (bt_ 10 55) rfl rfl (any_of HT_.out (by kernel_rfl)) (fun _ _ _ h=>h) (Or.inl ⟨by rfl,?_⟩) ?_ ?_
   rotate_left
   ·intro w'
    go_simp
    with_reducible rfl
   rotate_left
   ·simp only [pq_]
    rfl
   refine take_ (i:=6) (N:=some 31) (v:=?_) (a':=?_) (bt_ 10 119) rfl rfl (take_ofW HT_.out HW_.out (by kernel_rfl)) (fun _ _ _ h=>h) (Or.inl ⟨by rfl,?_⟩) hHeld ?_ ?_
   rotate_left
   ·rintro w' s0
    obtain ⟨m0,m1,m2,m3,m4,m5,m6,m7,m8,m9⟩:=NdB.cells s0
    go_simp
    with_reducible rfl
   rotate_left
   ·simp only [pq_]
    rfl
   refine one_ (i:=3) (N:=some 28) (bt_ 10 127) rfl rfl (one_of HT_.out (by kernel_rfl)) (by decide) (fun K hK=>?_)
   refine goes_ Tryz.func43 (by kernel_rfl) rfl #[.pointer (some ⟨q,0,none⟩),.int .i64 n.f7] (by rfl) rfl rfl (by (try simp only [List.map_toArray,List.map_cons,List.map_nil]);first|done|rfl) ?_
   with_reducible refine (HI.out.1 n.f7 w3 (HA.out.below HB3.out) HT.out.1 (by have:=HLH.out;omega)).mono ?_
   rintro e w4 ⟨va,rfl,hN,hb⟩
   have HB43:=z_ hb
   have HN4:=z_ hN
   have HN4B:=z_ hN
   have HB4:=z_ (below_step HB3.out hb)
   have HG4:=z_ (HG3.out.below hb)
   clear hb hN
   refine ⟨_,rfl,?_⟩
   refine hK.out _ _ HG4.out (fun hHeld=>?_)
   clear hK K
   refine norm_ (a':=?_) ?_ ?_
   rotate_left
   ·show Act.put _ (some 28) _=_
    simp only [pq_]
    rfl
   refine one_ (i:=7) (N:=some 32) (bt_ 10 255) rfl rfl (one_of HT_.out (by kernel_rfl)) (by decide) (fun K hK=>?_)
   refine goes_ Tryz.func43 (by kernel_rfl) rfl #[.pointer (some ⟨q,0,none⟩),.int .i64 n.f8] (by rfl) rfl rfl (by (try simp only [List.map_toArray,List.map_cons,List.map_nil]);first|done|rfl) ?_
   with_reducible refine (HI.out.2 n.f8 w4 (HA.out.below HB4.out) HT.out.2 (by have:=HLH.out;omega)).mono ?_
   rintro e w5 ⟨vb,rfl,hN,hb⟩
   have HN5:=z_ (And.intro (Kd.N_lower (Kd.N_below (Kd.N_bound HN4.out) hb) HB3.out.size) (And.intro hN hb))
   have HB5:=z_ (below_step HB4.out hb)
   have HG5:=z_ (HG4.out.below hb)
   clear hb hN
   obtain ⟨ls,hls⟩ : ∃x,x=l.leaves.map sOf:=⟨_,rfl⟩
   obtain ⟨rs,hrs⟩ : ∃x,x=r.leaves.map sOf:=⟨_,rfl⟩
   rw [<-hls,<-hrs] at HN5
   have HLR:=z_ (show ls.length+rs.length<=1000000 from by rw [hls,hrs,List.length_map,List.length_map];exact HLH.out)
   have HEQ:=z_ (And.intro hls hrs)
   clear hls hrs HN4
   obtain ⟨Ab,cb,rfl⟩:=Kd.N_slice HN5.out.2.1
   refine ⟨_,rfl,?_⟩
   refine hK.out _ _ HG5.out (fun hHeld=>?_)
   clear hK K
   refine norm_ (a':=?_) ?_ ?_
   rotate_left
   ·show Act.put _ (some 32) _=_
    simp only [pq_]
    rfl
   refine one_ (i:=8) (N:=some 33) (bt_ 10 511) rfl rfl (one_of HT_.out (by kernel_rfl)) (by decide) (fun K hK=>?_)
   refine Kd.N_append_rows_step k40 (w0:=w) w.heap.size (by rfl) (.tmp 28) (.tmp 32) 80 40 (.agg #[.slice none 0 0,.slice none 0 0,.int .i64 0]) 56 rfl Tryz.underlying80 (by kernel_rfl) rfl (by decide) (by omega) va ls rs Ab rs.length cb (fun k=>w.heap.size<=k) (fun k=>w4.heap.size<=k) rfl rfl ?aO ?aR ?aP ?aF ?aB ?aS ?aL ?_
   case aO=>exact Kd.N_mono HN5.out.1 (fun k hk=>Nat.le_trans HB3.out.size hk.1)
   case aR=>exact (Kd.N_F HN5.out.2.1)
   case aP=>exact (fun k hk=>⟨Nat.le_trans HB4.out.size hk,fun he=>by have h1:=HN5.out.1.1 k he.symm;omega⟩)
   case aF=>exact (fun k hk=>Nat.le_trans HB5.out.size hk)
   case aB=>exact HB5.out
   case aS=>exact HB5.out.size
   case aL=>have:=HLR.out;omega
   intro v1 w6 hN hb6 hg6 hat
   have HN6:=z_ (show Kd.N k40 40 w6 w.heap.size (fun k=>w.heap.size<=k) v1 (l.leaves.map sOf++r.leaves.map sOf) from by rw [<-HEQ.out.1,<-HEQ.out.2];exact hN)
   have HB6:=z_ hb6
   have HG6:=z_ (show NdB w6 g [.bool false,.slice D1 n.f1.length d1,.slice D2 n.f2.length d2,.int .i64 n.f3,.int .i64 n.f4,.slice D5 n.f5.length d5,.int .i64 n.f6,.int .i64 n.f7,.int .i64 n.f8,.slice D9 n.f9.length d9] from (hg6.block g (blk_lt HG5.out) (fun he=>by have h1:=Kd.N_base HN4B.out g he.symm;have h2:=blk_lt HG3.out;omega)).trans HG5.out)
   clear hN hb6 hg6 hat
   refine hK.out _ _ HG6.out (fun hHeld=>?_)
   clear hK K
   refine norm_ (a':=?_) ?_ ?_
   rotate_left
   ·show Act.put _ (some 33) _=_
    simp only [pq_]
    rfl
   refine pure_ (i:=9) (N:=some 4) (v:=?_) (a':=?_) (bt_ 10 1023) rfl rfl (any_of HT_.out (by kernel_rfl)) (fun _ _ _ h=>h) (Or.inl ⟨by rfl,?_⟩) ?_ ?_
   rotate_left
   ·intro w'
    go_simp
    with_reducible rfl
   rotate_left
   ·simp only [pq_]
    rfl
   refine done_ (done_of HT_.out (by kernel_rfl)) ?_
   go_wp2_with fail
   go_ret
   refine ⟨_,rfl,?_,HB6.out⟩
   rw [show (PT.fork n l r).leaves.map sOf=l.leaves.map sOf++r.leaves.map sOf from List.map_append]
   exact HN6.out
set_option maxHeartbeats 8000000 in
set_option maxRecDepth 100000 in
theorem rdeep_none {base q:Nat} {size most:Int} {vl:Value} {X:Nat->Prop} {cs:Cs} (root:Int) (w:World) (h:RefM w base q size most vl X cs) (hn:nodeAt cs root=none):
 Calls Tryz.prog 45 #[.pointer (some ⟨q,0,none⟩),.int .i64 root] w fun e w'=>e = .returned (.int .i64 0)/\Below w.heap.size w w':=by
 have HA:=z_ h
 have HN:=z_ hn
 clear h hn
 go_enter Tryz.func45,Tryz.ntmps45
 go_wp2_with fail
 refine (rnode_calls HA.out root (fun m hm=>by rw [HN.out] at hm;cases hm)).mono ?_
 rintro e w1 ⟨hV,hb⟩
 rw [HN.out] at hV
 obtain rfl:=(show e = .returned (.tuple #[.agg #[.bool false,.slice none 0 0,.slice none 0 0,.int .i64 0,.int .i64 0,.slice none 0 0,.int .i64 0,.int .i64 0,.int .i64 0,.slice none 0 0],.bool false]) from hV)
 have HB2:=z_ (below_step hb (below_alloc (Below.refl w1.heap.size w1) (.cells #[.bool false,.slice none 0 0,.slice none 0 0,.int .i64 0,.int .i64 0,.slice none 0 0,.int .i64 0,.int .i64 0,.int .i64 0,.slice none 0 0] 59)))
 clear hV hb
 go_wp2_with fail
 go_ret
 exact ⟨rfl,HB2.out⟩
set_option maxHeartbeats 8000000 in
set_option maxRecDepth 100000 in
theorem ritems_none {base q:Nat} {size most:Int} {vl:Value} {X:Nat->Prop} {cs:Cs} (root:Int) (w:World) (h:RefM w base q size most vl X cs) (hn:nodeAt cs root=none):
 Calls Tryz.prog 43 #[.pointer (some ⟨q,0,none⟩),.int .i64 root] w fun e w'=>e = .returned (.slice none 0 0)/\Below w.heap.size w w':=by
 have HA:=z_ h
 have HN:=z_ hn
 clear h hn
 go_enter Tryz.func43,Tryz.ntmps43
 go_wp2_with fail
 refine (rnode_calls HA.out root (fun m hm=>by rw [HN.out] at hm;cases hm)).mono ?_
 rintro e w1 ⟨hV,hb⟩
 rw [HN.out] at hV
 obtain rfl:=(show e = .returned (.tuple #[.agg #[.bool false,.slice none 0 0,.slice none 0 0,.int .i64 0,.int .i64 0,.slice none 0 0,.int .i64 0,.int .i64 0,.int .i64 0,.slice none 0 0],.bool false]) from hV)
 have HB2:=z_ (below_step hb (below_alloc (Below.refl w1.heap.size w1) (.cells #[.bool false,.slice none 0 0,.slice none 0 0,.int .i64 0,.int .i64 0,.slice none 0 0,.int .i64 0,.int .i64 0,.int .i64 0,.slice none 0 0] 59)))
 clear hV hb
 go_wp2_with fail
 go_ret
 exact ⟨rfl,HB2.out⟩
theorem rdeepO_calls {w:World} {base q:Nat} {size most:Int} {vl:Value} {X:Nat->Prop} {cs:Cs} (h:RefM w base q size most vl X cs) (root:Int) (t:Option PT) (ht:TreeIn size cs root t):
 Calls Tryz.prog 45 #[.pointer (some ⟨q,0,none⟩),.int .i64 root] w fun e w'=>e = .returned (.int .i64 (heightO t:Int))/\Below w.heap.size w w':=by
 cases t with
 | none=>exact rdeep_none root w h ht.at_
 | some t=>exact rdeep_calls ht.g.ok t root w h ht.at_ (by have h1:heightO (some t)<=2048:=ht.good.h_le;exact Nat.le_trans h1 (by decide))
theorem ritemsO_calls {w:World} {base q:Nat} {size most:Int} {vl:Value} {X:Nat->Prop} {cs:Cs} (h:RefM w base q size most vl X cs) (root:Int) (t:Option PT) (ht:TreeIn size cs root t) (hl:(leavesO t).length<=1000000):
 Calls Tryz.prog 43 #[.pointer (some ⟨q,0,none⟩),.int .i64 root] w fun e w'=>∃v,e = .returned v/\Kd.N k40 40 w' w.heap.size (fun k=>w.heap.size<=k) v ((leavesO t).map sOf)/\Below w.heap.size w w':=by
 cases t with
 | none=>exact (ritems_none root w h ht.at_).mono fun e w' hp=>⟨_,hp.1,Kd.N_nil _ _ _ _ _,hp.2⟩
 | some t=>exact ritems_calls ht.g.ok t root w h ht.at_ hl
end Go.Proofs.YtdeneoknjeegbaaGreatDoor.P
end
section
namespace Go.Proofs.YtdeneoknjeegbaaGreatDoor.P
open Go Go.RowKit YtdeneoknjeegbaaGreatDoor.Pure YtdeneoknjeegbaaGreatDoorW.PrintWords YtdeneoknjeegbaaGreatDoorW.PrintLast YtdeneoknjeegbaaGreatDoorW.PrintMore
set_option maxHeartbeats 8000000 in
set_option maxRecDepth 100000 in
theorem pneeds_calls {w:World} {base p:Nat} {size room:Int} {vc vf:Value} {X:Nat->Prop} {cs:Cs} (h:ArenaM w base p size room vc vf X cs) (root:Int) (t0:Option PT) (ht:TreeIn size cs root t0) (hrt:t0=none->root = -1) (A:Option Addr) (c:Nat) (id:List Int) (hid:Kd.C (Kd.int .u8) w A id.length id) (hc:id.length<=c) (ho:BytesOk id) (hG:GlobS w):
 Calls Tryz.prog 7 #[.pointer (some ⟨p,0,none⟩),.int .i64 root,.slice A id.length c] w fun e w'=>e = .returned (.int .i64 ((findO (keyB id) id root t0).needs:Int))/\Below w.heap.size w w':=by
 have HA:=z_ h
 have HT:=z_ ht
 have HID:=z_ (And.intro hid (And.intro hc ho))
 have HSZ:=z_ (show size≠0 by have:=h.hs;omega)
 have HGS:=z_ hG
 have hsz:(size==0)=false:=by simpa using HSZ.out
 have hroot:root = -1\/(root≠ -1/\∃n,nodeAt cs root=some n):=by
  cases t0 with
  | none=>exact .inl (hrt rfl)
  | some t=>exact .inr ht.root
 clear h ht hid hc ho hrt hG
 rcases hroot with hr|⟨hr,hnd⟩
 ·have hr1:(root != -1)=false:=by simpa using hr
  have HB2:=z_ (Below.refl w.heap.size w)
  clear hr
  go_enter Tryz.func7,Tryz.ntmps7
  go_wp2_with fail
  refine (size_calls (blkA HA.out) HSZ.out).mono ?_
  rintro e w' ⟨rfl,rfl⟩
  go_wp2_with fail
  refine (find_calls (HA.out.below HB2.out) HT.out.g.ok root A c id (Kd.C_below HID.out.1 HB2.out) HID.out.2.1 HID.out.2.2 (fun n hn=>(HT.out.g n hn).o1) t0 HT.out.at_ (by have:=HT.out.good.h_le;omega)).mono ?_
  rintro e w3 ⟨⟨va,Z,E1,E2,E5,E9,e1,e2,e5,e9,rfl,hF,hZ,x1,x2,x5,x9⟩,hb⟩
  obtain ⟨s,hs⟩ : ∃s,s=findO (keyB id) id root t0:=⟨_,rfl⟩
  rw [<-hs] at hF
  rw [<-hs]
  obtain ⟨Af,nf,cf,rfl⟩ : ∃Af nf cf,va = .slice Af nf cf:=by
   obtain ⟨rows,hR,_⟩:=hF.mem
   exact formR hR
  have HNF:=z_ (show nf=s.forks.length/\nf<=100000 from by
   obtain ⟨rows,hR,hl,_⟩:=hF.mem
   have h1:=(Kd.R_reads' hR).1
   have h2:=(way_o cs (keyB id) id root t0 HT.out.at_).2.2.1
   have h3:=HT.out.good.h_le
   rw [<-hs] at h2
   omega)
  have HB3:=z_ (below_step HB2.out hb)
  have HSS:=z_ hs
  clear hs hF hZ x1 x2 x5 x9 hb
  go_wp2_with fail
  refine (needs_calls w3 Af nf cf s.at_ _ _ _ _ _ _ _ _ _ _ s.same (by have:=HNF.out;omega)).mono ?_
  rintro e w4 ⟨rfl,hb⟩
  have HB4:=z_ (below_step HB3.out hb)
  clear hb
  rw [show (nf:Int)+1+(if s.at_≠ -1/\s.same=false then 1 else 0)=(s.needs:Int) from by
   unfold Spot.needs
   rw [HNF.out.1]
   split<;>omega]
  go_wp2_with fail
  go_ret
  rw [<-HSS.out]
  exact ⟨rfl,HB4.out⟩
 ·have hr1:(root != -1)=true:=by simpa using hr
  have HND:=z_ (show ∃n,nodeAt cs root=some n from hnd)
  clear hr hnd
  go_enter Tryz.func7,Tryz.ntmps7
  go_wp2_with fail
  refine (size_calls (blkA HA.out) HSZ.out).mono ?_
  rintro e w' ⟨rfl,rfl⟩
  go_wp2_with fail
  refine (hashA_calls HA.out root (fun n hn=>(HT.out.g.ok.at root n hn).1.2.2.2) HGS.out).mono ?_
  rintro e w2 ⟨⟨v,rfl,hv⟩,hb⟩
  obtain ⟨ah,ch,rfl⟩:=hv.some (by
   obtain ⟨n,hn⟩:=HND.out
   unfold hashAt
   rw [hn]
   exact (HT.out.g n (nodeAt_mem hn)).h9)
  obtain ⟨nh,hnh⟩ : ∃n,n=(hashAt size cs root).length:=⟨_,rfl⟩
  rw [<-hnh]
  have hnil : ∀W:World,(binOp .eql 23 (.slice (some ah) nh ch) (.slice none 0 0)).run Tryz.prog W = .ok (.bool false) W:=fun _=>by kernel_rfl
  have HB2:=z_ hb
  clear hnh hv hb
  go_wp2_with fail
  refine (find_calls (HA.out.below HB2.out) HT.out.g.ok root A c id (Kd.C_below HID.out.1 HB2.out) HID.out.2.1 HID.out.2.2 (fun n hn=>(HT.out.g n hn).o1) t0 HT.out.at_ (by have:=HT.out.good.h_le;omega)).mono ?_
  rintro e w3 ⟨⟨va,Z,E1,E2,E5,E9,e1,e2,e5,e9,rfl,hF,hZ,x1,x2,x5,x9⟩,hb⟩
  obtain ⟨s,hs⟩ : ∃s,s=findO (keyB id) id root t0:=⟨_,rfl⟩
  rw [<-hs] at hF
  rw [<-hs]
  obtain ⟨Af,nf,cf,rfl⟩ : ∃Af nf cf,va = .slice Af nf cf:=by
   obtain ⟨rows,hR,_⟩:=hF.mem
   exact formR hR
  have HNF:=z_ (show nf=s.forks.length/\nf<=100000 from by
   obtain ⟨rows,hR,hl,_⟩:=hF.mem
   have h1:=(Kd.R_reads' hR).1
   have h2:=(way_o cs (keyB id) id root t0 HT.out.at_).2.2.1
   have h3:=HT.out.good.h_le
   rw [<-hs] at h2
   omega)
  have HB3:=z_ (below_step HB2.out hb)
  have HSS:=z_ hs
  clear hs hF hZ x1 x2 x5 x9 hb
  go_wp2_with fail
  refine (needs_calls w3 Af nf cf s.at_ _ _ _ _ _ _ _ _ _ _ s.same (by have:=HNF.out;omega)).mono ?_
  rintro e w4 ⟨rfl,hb⟩
  have HB4:=z_ (below_step HB3.out hb)
  clear hb
  rw [show (nf:Int)+1+(if s.at_≠ -1/\s.same=false then 1 else 0)=(s.needs:Int) from by
   unfold Spot.needs
   rw [HNF.out.1]
   split<;>omega]
  go_wp2_with fail
  go_ret
  rw [<-HSS.out]
  exact ⟨rfl,HB4.out⟩
end Go.Proofs.YtdeneoknjeegbaaGreatDoor.P
end
