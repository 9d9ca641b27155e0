/- Lemmas of this claim, part 4. -/
import Derived.Test.YtdeneoknjeegbaaDoorPartPtreeOrder2
import Derived.Test.YtdeneoknjeegbaaDoorPartPtreeOrder3
import Derived.WalkSpells
import Derived.WalkLawsBesides
import Derived.IntWalk
import Derived.StillTailTactics
import Derived.Handy
import Derived.BigRegion
set_option linter.unusedVariables false
set_option linter.unusedSimpArgs false
section
namespace Go.Proofs.YtdeneoknjeegbaaDoor.P
open Go.RowKit YtdeneoknjeegbaaDoorW.PrintWords YtdeneoknjeegbaaDoorW.PrintLast YtdeneoknjeegbaaDoorW.PrintMore
attribute [local go_sem] max2_int min2_int max_two min_two max_three min_three max_four min_four
def ptree_below.f (k:Nat) (a0_0:Bool) (l0_1:List Int) (l0_2:List Int) (a0_3:Int) (a0_4:Int) (l0_5:List Int) (a0_6:Int) (a0_7:Int) (a0_8:Int) (l0_9:List Int) (l1:List Int):Option (Int):=(bits_Bit.f k l1 a0_4).bind fun t361=>(if t361=1 then (some a0_8) else (some a0_7))
theorem ptree_below.mono : ∀a0 a1 a2 a3 a4 a5 a6 a7 a8 a9 a10 k,LeO (ptree_below.f k a0 a1 a2 a3 a4 a5 a6 a7 a8 a9 a10) (ptree_below.f (k+1) a0 a1 a2 a3 a4 a5 a6 a7 a8 a9 a10):=by
 intro a0 a1 a2 a3 a4 a5 a6 a7 a8 a9 a10 k
 unfold ptree_below.f
 repeat' first
  | (with_reducible exact bits_Bit.mono _ _ _)
  | (with_reducible exact LeO.refl _)
  | (with_reducible exact LeO.none _)
  | (with_reducible refine LeO.ite ?_ ?_)
  | (with_reducible refine LeO.bind ?_ (fun _=>?_))
  | exact bits_Bit.mono _ _ _
  | exact LeO.none _
  | refine LeO.ite ?_ ?_
  | refine LeO.bind ?_ (fun _=>?_)
set_option maxHeartbeats 8000000 in
set_option maxRecDepth 100000 in
theorem ptree_below.calls (k:Nat) (a0_0:Bool) (A0_1:Option Addr) (c0_1:Nat) (l0_1:List Int) (A0_2:Option Addr) (c0_2:Nat) (l0_2:List Int) (a0_3:Int) (a0_4:Int) (A0_5:Option Addr) (c0_5:Nat) (l0_5:List Int) (a0_6:Int) (a0_7:Int) (a0_8:Int) (A0_9:Option Addr) (c0_9:Nat) (l0_9:List Int) (A1:Option Addr) (c1:Nat) (l1:List Int) (r:Int) (w:World) (hr0_1:Kd.C (Kd.int .u8) w A0_1 l0_1.length l0_1) (hc0_1:l0_1.length<=c0_1) (hr0_2:Kd.C (Kd.int .u8) w A0_2 l0_2.length l0_2) (hc0_2:l0_2.length<=c0_2) (hr0_5:Kd.C (Kd.int .u8) w A0_5 l0_5.length l0_5) (hc0_5:l0_5.length<=c0_5) (hr0_9:Kd.C (Kd.int .u8) w A0_9 l0_9.length l0_9) (hc0_9:l0_9.length<=c0_9) (hr1:Kd.C (Kd.int .u8) w A1 l1.length l1) (hc1:l1.length<=c1) (h:ptree_below.f k a0_0 l0_1 l0_2 a0_3 a0_4 l0_5 a0_6 a0_7 a0_8 l0_9 l1=some r):
 Calls Tryd.prog 84 #[.agg #[.bool a0_0,.slice A0_1 l0_1.length c0_1,.slice A0_2 l0_2.length c0_2,.int .i64 a0_3,.int .i64 a0_4,.slice A0_5 l0_5.length c0_5,.int .i64 a0_6,.int .i64 a0_7,.int .i64 a0_8,.slice A0_9 l0_9.length c0_9],.slice A1 l1.length c1] w fun e w'=>e = .returned (.int .i64 r)/\Below w.heap.size w w':=by
 have hu39:=Tryd.underlying39
 have HR0_1:=z_ hr0_1
 have HC0_1:=z_ hc0_1
 clear hr0_1 hc0_1
 have HR0_2:=z_ hr0_2
 have HC0_2:=z_ hc0_2
 clear hr0_2 hc0_2
 have HR0_5:=z_ hr0_5
 have HC0_5:=z_ hc0_5
 clear hr0_5 hc0_5
 have HR0_9:=z_ hr0_9
 have HC0_9:=z_ hc0_9
 clear hr0_9 hc0_9
 have HR1:=z_ hr1
 have HC1:=z_ hc1
 clear hr1 hc1
 have HB:=z_ (Below.refl w.heap.size w)
 have H:((bits_Bit.f k l1 a0_4).bind fun t361=>(if t361=1 then (some a0_8) else (some a0_7)))=some r:=h
 clear h
 replace H:=Option.bind_eq_some_iff.mp H
 obtain ⟨t361,A30,H⟩:=H
 replace H:(if t361=1 then (some a0_8) else (some a0_7))=some r:=H
 have A3:=z_ A30
 clear A30
 by_cases c4:t361=1
 ·rw [if_pos c4] at H
  have c4b0:(t361==1)=true:=beq_iff_eq.mpr c4
  have c4b1:(t361 !=1)=false:=bne_eq_false_iff_eq.mpr c4
  clear c4
  obtain rfl:=Option.some.inj H
  go_enter Tryd.func84,Tryd.ntmps84
  go_wp2_with (first|((with_reducible refine gate_dst (N:=2) rfl ?_);refine box_event ?hg (N:=2) ?hd (cs:=#[.bool a0_0,.slice A0_1 l0_1.length c0_1,.slice A0_2 l0_2.length c0_2,.int .i64 a0_3,.int .i64 a0_4,.slice A0_5 l0_5.length c0_5,.int .i64 a0_6,.int .i64 a0_7,.int .i64 a0_8,.slice A0_9 l0_9.length c0_9]) (t:=39) ?hr ?_;(case hd=>rfl);(case hg=>rfl);(case hr=>first|(go_simp;done)|(go_simp;rfl));intro gb360 hg w5 hbox hb;have n0_:=z_ (below_step (by repeat (first|(with_reducible first|exact HB.out|apply below_alloc|apply pw_below_drewN|apply below_drew1)|exact HB.out)) hb);have n1_:=z_ (hbox);have n2_:=z_ ((by rw [hg];exact (below_size (by repeat (first|(with_reducible first|exact HB.out|apply below_alloc|apply pw_below_drewN|apply below_drew1)|exact HB.out))):w.heap.size<=gb360));have n3_:=z_ ((by rw [hg];exact (below_size (by repeat (first|(with_reducible first|exact HB.out|apply below_alloc|apply pw_below_drewN|apply below_drew1)|exact HB.out))):w.heap.size<=gb360));clear HB;have HB:=n0_;have BK360:=n1_;have GW360:=n2_;have GE360:=n3_;clear n0_ n1_ n2_ n3_;clear hb hbox hg;have hcz6_0:w5.cell? ⟨gb360,0,none⟩=some (.bool a0_0):=(blk_cell BK360.out 0).trans rfl;have hcz6_1:w5.cell? ⟨gb360,1,none⟩=some (.slice A0_1 l0_1.length c0_1):=(blk_cell BK360.out 1).trans rfl;have hcz6_2:w5.cell? ⟨gb360,2,none⟩=some (.slice A0_2 l0_2.length c0_2):=(blk_cell BK360.out 2).trans rfl;have hcz6_3:w5.cell? ⟨gb360,3,none⟩=some (.int .i64 a0_3):=(blk_cell BK360.out 3).trans rfl;have hcz6_4:w5.cell? ⟨gb360,4,none⟩=some (.int .i64 a0_4):=(blk_cell BK360.out 4).trans rfl;have hcz6_5:w5.cell? ⟨gb360,5,none⟩=some (.slice A0_5 l0_5.length c0_5):=(blk_cell BK360.out 5).trans rfl;have hcz6_6:w5.cell? ⟨gb360,6,none⟩=some (.int .i64 a0_6):=(blk_cell BK360.out 6).trans rfl;have hcz6_7:w5.cell? ⟨gb360,7,none⟩=some (.int .i64 a0_7):=(blk_cell BK360.out 7).trans rfl;have hcz6_8:w5.cell? ⟨gb360,8,none⟩=some (.int .i64 a0_8):=(blk_cell BK360.out 8).trans rfl;have hcz6_9:w5.cell? ⟨gb360,9,none⟩=some (.slice A0_9 l0_9.length c0_9):=(blk_cell BK360.out 9).trans rfl;have hfz6_0:=blk_frozen BK360.out 0;have hfz6_1:=blk_frozen BK360.out 1;have hfz6_2:=blk_frozen BK360.out 2;have hfz6_3:=blk_frozen BK360.out 3;have hfz6_4:=blk_frozen BK360.out 4;have hfz6_5:=blk_frozen BK360.out 5;have hfz6_6:=blk_frozen BK360.out 6;have hfz6_7:=blk_frozen BK360.out 7;have hfz6_8:=blk_frozen BK360.out 8;have hfz6_9:=blk_frozen BK360.out 9)|((with_reducible refine gate_callee (f:=58) rfl ?_);refine goesL_ (some 8) rfl rfl Tryd.func58 (by kernel_rfl) rfl #[.slice A1 l1.length c1,.int .i64 a0_4] rfl (by (try simp only [List.map_toArray,List.map_cons,List.map_nil]);first|done|rfl|(simp only [List.length_drop,List.length_take];rfl)) ?_;(with_reducible refine (bits_Bit.calls k _ _ l1 a0_4 t361 _ ?side1 ?side2 A3.out).mono ?_);(case side1=>repeat (first|exact (Kd.C_below HR1.out HB.out)|(with_reducible refine Kd.C_alloc ?_ _)|(with_reducible refine Kd.C_drewN ?_ _)|(with_reducible refine Kd.C_drew ?_)));(case side2=>exact HC1.out);rintro e w' ⟨rfl,⟨nd,rfl⟩⟩;refine ⟨_,rfl,?_⟩))
  go_ret
  exact ⟨by first|rfl|(simp [errW_none,errW_some]<;>rfl)|(simp [*,errW_none,errW_some]<;>rfl),by repeat (first|(with_reducible first|exact HB.out|apply below_alloc|apply pw_below_drewN|apply below_drew1|refine below_set ?_ GE360.out)|exact HB.out)⟩
 ·rw [if_neg c4] at H
  have c4b0:(t361==1)=false:=beq_eq_false_iff_ne.mpr c4
  have c4b1:(t361 !=1)=true:=bne_iff_ne.mpr c4
  obtain rfl:=Option.some.inj H
  go_enter Tryd.func84,Tryd.ntmps84
  go_wp2_with (first|((with_reducible refine gate_dst (N:=2) rfl ?_);refine box_event ?hg (N:=2) ?hd (cs:=#[.bool a0_0,.slice A0_1 l0_1.length c0_1,.slice A0_2 l0_2.length c0_2,.int .i64 a0_3,.int .i64 a0_4,.slice A0_5 l0_5.length c0_5,.int .i64 a0_6,.int .i64 a0_7,.int .i64 a0_8,.slice A0_9 l0_9.length c0_9]) (t:=39) ?hr ?_;(case hd=>rfl);(case hg=>rfl);(case hr=>first|(go_simp;done)|(go_simp;rfl));intro gb360 hg w7 hbox hb;have n0_:=z_ (below_step (by repeat (first|(with_reducible first|exact HB.out|apply below_alloc|apply pw_below_drewN|apply below_drew1)|exact HB.out)) hb);have n1_:=z_ (hbox);have n2_:=z_ ((by rw [hg];exact (below_size (by repeat (first|(with_reducible first|exact HB.out|apply below_alloc|apply pw_below_drewN|apply below_drew1)|exact HB.out))):w.heap.size<=gb360));have n3_:=z_ ((by rw [hg];exact (below_size (by repeat (first|(with_reducible first|exact HB.out|apply below_alloc|apply pw_below_drewN|apply below_drew1)|exact HB.out))):w.heap.size<=gb360));clear HB;have HB:=n0_;have BK360:=n1_;have GW360:=n2_;have GE360:=n3_;clear n0_ n1_ n2_ n3_;clear hb hbox hg;have hcz8_0:w7.cell? ⟨gb360,0,none⟩=some (.bool a0_0):=(blk_cell BK360.out 0).trans rfl;have hcz8_1:w7.cell? ⟨gb360,1,none⟩=some (.slice A0_1 l0_1.length c0_1):=(blk_cell BK360.out 1).trans rfl;have hcz8_2:w7.cell? ⟨gb360,2,none⟩=some (.slice A0_2 l0_2.length c0_2):=(blk_cell BK360.out 2).trans rfl;have hcz8_3:w7.cell? ⟨gb360,3,none⟩=some (.int .i64 a0_3):=(blk_cell BK360.out 3).trans rfl;have hcz8_4:w7.cell? ⟨gb360,4,none⟩=some (.int .i64 a0_4):=(blk_cell BK360.out 4).trans rfl;have hcz8_5:w7.cell? ⟨gb360,5,none⟩=some (.slice A0_5 l0_5.length c0_5):=(blk_cell BK360.out 5).trans rfl;have hcz8_6:w7.cell? ⟨gb360,6,none⟩=some (.int .i64 a0_6):=(blk_cell BK360.out 6).trans rfl;have hcz8_7:w7.cell? ⟨gb360,7,none⟩=some (.int .i64 a0_7):=(blk_cell BK360.out 7).trans rfl;have hcz8_8:w7.cell? ⟨gb360,8,none⟩=some (.int .i64 a0_8):=(blk_cell BK360.out 8).trans rfl;have hcz8_9:w7.cell? ⟨gb360,9,none⟩=some (.slice A0_9 l0_9.length c0_9):=(blk_cell BK360.out 9).trans rfl;have hfz8_0:=blk_frozen BK360.out 0;have hfz8_1:=blk_frozen BK360.out 1;have hfz8_2:=blk_frozen BK360.out 2;have hfz8_3:=blk_frozen BK360.out 3;have hfz8_4:=blk_frozen BK360.out 4;have hfz8_5:=blk_frozen BK360.out 5;have hfz8_6:=blk_frozen BK360.out 6;have hfz8_7:=blk_frozen BK360.out 7;have hfz8_8:=blk_frozen BK360.out 8;have hfz8_9:=blk_frozen BK360.out 9)|((with_reducible refine gate_callee (f:=58) rfl ?_);refine goesL_ (some 8) rfl rfl Tryd.func58 (by kernel_rfl) rfl #[.slice A1 l1.length c1,.int .i64 a0_4] rfl (by (try simp only [List.map_toArray,List.map_cons,List.map_nil]);first|done|rfl|(simp only [List.length_drop,List.length_take];rfl)) ?_;(with_reducible refine (bits_Bit.calls k _ _ l1 a0_4 t361 _ ?side1 ?side2 A3.out).mono ?_);(case side1=>repeat (first|exact (Kd.C_below HR1.out HB.out)|(with_reducible refine Kd.C_alloc ?_ _)|(with_reducible refine Kd.C_drewN ?_ _)|(with_reducible refine Kd.C_drew ?_)));(case side2=>exact HC1.out);rintro e w' ⟨rfl,⟨nd,rfl⟩⟩;refine ⟨_,rfl,?_⟩))
  go_ret
  exact ⟨by first|rfl|(simp [errW_none,errW_some]<;>rfl)|(simp [*,errW_none,errW_some]<;>rfl),by repeat (first|(with_reducible first|exact HB.out|apply below_alloc|apply pw_below_drewN|apply below_drew1|refine below_set ?_ GE360.out)|exact HB.out)⟩
end Go.Proofs.YtdeneoknjeegbaaDoor.P
end
section
namespace Go.Proofs.YtdeneoknjeegbaaDoor.P
open Go.RowKit YtdeneoknjeegbaaDoorW.PrintWords YtdeneoknjeegbaaDoorW.PrintLast YtdeneoknjeegbaaDoorW.PrintMore
theorem still1 {P:Program} {f:FuncId} {args:Array Value} {w:World} {n:Nat} {v:Value} (h:Calls P f args (w.drewN n) fun e w'=>e = .returned v/\w.drewN n=w'):
 Calls P f args (w.drewN n) fun e w''=>e = .returned v/\∃m,w''=w.drewN m:=h.mono fun _ _ ⟨he,hd⟩=>⟨he,n,by rw [<-hd]⟩
theorem drawn1_quiet {P:Program} {f:FuncId} {args:Array Value} {w:World} {n:Nat} {v:Value} (h:Calls P f args (w.drewN n) fun e w'=>e = .returned v/\Drawn0 (w.drewN n) w'):
 Calls P f args (w.drewN n) fun e w''=>e = .returned v/\∃m,w''=w.drewN m:=h.mono fun _ _ ⟨he,hd⟩=>by
 obtain ⟨m,hm⟩:=hd.out
 exact ⟨he,n+m,by rw [hm,World.drewN_drewN]⟩
end Go.Proofs.YtdeneoknjeegbaaDoor.P
end
section
namespace Go.Proofs.YtdeneoknjeegbaaDoor.P
def gn (l:List Int) (k:Nat):Int:=l.getD k 0
def swapL (l:List Int) (i j:Nat):List Int:=(l.set i (gn l j)).set j (gn l i)
theorem gn_lt {l:List Int} {k:Nat} (h:k<l.length):gn l k=l[k]:=by
 unfold gn
 rw [List.getD_eq_getElem?_getD,List.getElem?_eq_getElem h]
 rfl
theorem gn_swap {l:List Int} {i j:Nat} (hi:i<l.length) (hj:j<l.length) (k:Nat):gn (swapL l i j) k=if k=j then gn l i else if k=i then gn l j else gn l k:=by
 unfold swapL
 by_cases h1:k=j
 ·subst h1
  rw [if_pos rfl,gn_lt (by simpa using hj),List.getElem_set_self]
 ·rw [if_neg h1]
  by_cases h2:k=i
  ·subst h2
   rw [if_pos rfl,gn_lt (by simpa using hi),List.getElem_set_ne (fun h=>h1 h.symm),List.getElem_set_self]
  ·rw [if_neg h2]
   unfold gn
   rw [List.getD_eq_getElem?_getD,List.getElem?_set_ne (fun h=>h1 h.symm),List.getElem?_set_ne (fun h=>h2 h.symm),List.getD_eq_getElem?_getD]
theorem swapL_perm {l:List Int} {i j:Nat} (hi:i<l.length) (hj:j<l.length):(swapL l i j).Perm l:=by
 unfold swapL
 rw [gn_lt hi,gn_lt hj]
 exact List.set_set_perm hi hj
def HeapN (n:Nat) (l:List Int):Prop:=∀k,0<k->k<n->gn l ((k-1)/2)<=gn l k
theorem HeapN.min {n:Nat} {l:List Int} (h:HeapN n l) : ∀k,k<n->gn l 0<=gn l k:=by
 intro k
 induction k using Nat.strongRecOn with
 | _ k ih=>
   intro hk
   by_cases h0:k=0
   ·subst h0
    exact Int.le_refl _
   ·exact Int.le_trans (ih ((k-1)/2) (by omega) (by omega)) (h k (by omega) hk)
def HeapUp (n j:Nat) (l:List Int):Prop:=(∀k,0<k->k<n->k≠j->gn l ((k-1)/2)<=gn l k)/\∀k,0<k->k<n->(k-1)/2=j->0<j->gn l ((j-1)/2)<=gn l k
theorem HeapUp.step {n j:Nat} {l:List Int} (h:HeapUp n j l) (hj:0<j) (hn:j<n) (hl:n<=l.length) (hs:gn l j<gn l ((j-1)/2)):HeapUp n ((j-1)/2) (swapL l ((j-1)/2) j):=by
 obtain ⟨i,hi⟩ : ∃i,i=(j-1)/2:=⟨_,rfl⟩
 rw [<-hi] at hs
 rw [<-hi]
 have hg:=fun k=>gn_swap (l:=l) (i:=i) (j:=j) (by omega) (by omega) k
 refine ⟨fun k h0 hk hki=>?_,fun k h0 hk hki h0i=>?_⟩
 ·rw [hg,hg]
  have h1:=h.1 k h0 hk
  have h2:=h.2 k h0 hk
  by_cases hkj:k=j
  ·subst hkj
   rw [if_neg (by omega),if_pos (by omega),if_pos rfl]
   omega
  ·rw [if_neg hkj,if_neg hki]
   by_cases hp:(k-1)/2=j
   ·rw [if_pos hp,hi]
    exact h2 hp hj
   ·rw [if_neg hp]
    by_cases hpi:(k-1)/2=i
    ·rw [if_pos hpi]
     have:=h1 hkj
     rw [hpi] at this
     omega
    ·rw [if_neg hpi]
     exact h1 hkj
 ·rw [hg,hg]
  have h1:=h.1 i h0i (by omega) (by omega)
  rw [if_neg (by omega),if_neg (by omega)]
  by_cases hkj:k=j
  ·rw [if_pos hkj]
   exact h1
  ·rw [if_neg hkj,if_neg (by omega)]
   have h2:=h.1 k h0 hk hkj
   rw [hki] at h2
   omega
def HeapDn (n i:Nat) (l:List Int):Prop:=(∀k,0<k->k<n->(k-1)/2≠i->gn l ((k-1)/2)<=gn l k)/\∀k,0<k->k<n->(k-1)/2=i->0<i->gn l ((i-1)/2)<=gn l k
theorem HeapDn.stop {n i:Nat} {l:List Int} (h:HeapDn n i l) (hs : ∀k,0<k->k<n->(k-1)/2=i->gn l i<=gn l k):HeapN n l:=by
 intro k h0 hk
 by_cases hi:(k-1)/2=i
 ·rw [hi]
  exact hs k h0 hk hi
 ·exact h.1 k h0 hk hi
theorem HeapDn.step {n i j:Nat} {l:List Int} (h:HeapDn n i l) (hj:0<j) (hn:j<n) (hl:n<=l.length) (hp:(j-1)/2=i) (hs:gn l j<gn l i) (hm : ∀k,0<k->k<n->(k-1)/2=i->gn l j<=gn l k):HeapDn n j (swapL l i j):=by
 have hg:=fun k=>gn_swap (l:=l) (i:=i) (j:=j) (by omega) (by omega) k
 refine ⟨fun k h0 hk hki=>?_,fun k h0 hk hki h0i=>?_⟩
 ·rw [hg,hg]
  have h1:=h.1 k h0 hk
  have h2:=h.2 j hj hn hp
  by_cases hkj:k=j
  ·subst hkj
   rw [if_neg (by omega),if_pos hp,if_pos rfl]
   omega
  ·rw [if_neg hki,if_neg hkj]
   by_cases hpi:(k-1)/2=i
   ·rw [if_pos hpi,if_neg (by omega)]
    exact hm k h0 hk hpi
   ·rw [if_neg hpi]
    by_cases hk2:k=i
    ·rw [if_pos hk2,hk2]
     exact h2 (by omega)
    ·rw [if_neg hk2]
     exact h1 hpi
 ·rw [hg,hg,hp]
  rw [if_neg (by omega),if_pos rfl,if_neg (by omega),if_neg (by omega)]
  have h1:=h.1 k h0 hk (by omega)
  rw [hki] at h1
  exact h1
theorem HeapN.swap_last {l:List Int} {n:Nat} (h:HeapN l.length l) (hn:l.length=n+1):HeapDn n 0 (swapL l 0 n):=by
 have hg:=fun k=>gn_swap (l:=l) (i:=0) (j:=n) (by omega) (by omega) k
 refine ⟨fun k h0 hk hi=>?_,fun k h0 hk hi h=>absurd h (by omega)⟩
 rw [hg,hg,if_neg (by omega),if_neg hi,if_neg (by omega),if_neg (by omega)]
 exact h k h0 (by omega)
theorem gn_take {l:List Int} {n k:Nat} (h:k<n):gn (l.take n) k=gn l k:=by
 unfold gn
 rw [List.getD_eq_getElem?_getD,List.getElem?_take,if_pos h,List.getD_eq_getElem?_getD]
theorem HeapN.take {l:List Int} {n:Nat} (h:HeapN n l):HeapN n (l.take n):=by
 intro k h0 hk
 rw [gn_take (by omega),gn_take hk]
 exact h k h0 hk
end Go.Proofs.YtdeneoknjeegbaaDoor.P
end
section
namespace Go.Proofs.YtdeneoknjeegbaaDoor.P
open Go.RowKit YtdeneoknjeegbaaDoorW.PrintWords YtdeneoknjeegbaaDoorW.PrintLast YtdeneoknjeegbaaDoorW.PrintMore
abbrev Nd:=S39
abbrev kNd:Kd Nd:=k39
abbrev Places:=List (Bool×Nd)
def ABlk (w:World) (p:Nat) (size room:Int) (vc vf:Value):Prop:=w.heap[p]? = some (.cells #[.int .i64 size,.int .i64 room,vc,vf] 77 (0,0))
theorem ABlk.below {w w1:World} {p:Nat} {size room:Int} {vc vf:Value} (h:ABlk w p size room vc vf) (hb:Below w.heap.size w w1):ABlk w1 p size room vc vf:=blk_below h hb
theorem ABlk.lt {w:World} {p:Nat} {size room:Int} {vc vf:Value} (h:ABlk w p size room vc vf):p<w.heap.size:=blk_lt h
theorem ABlk.cells {w:World} {p:Nat} {size room:Int} {vc vf:Value} (h:ABlk w p size room vc vf):w.cell? ⟨p,0,none⟩=some (.int .i64 size)/\w.cell? ⟨p,1,none⟩=some (.int .i64 room)/\w.cell? ⟨p,2,none⟩=some vc/\w.cell? ⟨p,3,none⟩=some vf:=
 ⟨blk_cell h 0,blk_cell h 1,blk_cell h 2,blk_cell h 3⟩
theorem none_calls {w:World} {p:Nat} {size room:Int} {vc vf:Value} (h:ABlk w p size room vc vf) (hs:size≠0):
 Calls Tryd.prog 47 #[.pointer (some ⟨p,0,none⟩)] w fun e w'=>e = .returned (.bool false)/\w=w':=by
 obtain ⟨c0,c1,c2,c3⟩:=h.cells
 have hs0:(size==0)=false:=by simpa using hs
 go_enter Tryd.func47,Tryd.ntmps47
 go_wp2_with fail
 go_ret
 exact ⟨rfl,rfl⟩
theorem len_calls (A:Option Addr) (n c:Nat) (w:World):
 Calls Tryd.prog 48 #[.slice A n c] w fun e w'=>e = .returned (.int .i64 (n:Int))/\w=w':=by
 go_enter Tryd.func48,Tryd.ntmps48
 go_wp2_with fail
 go_ret
 exact ⟨rfl,rfl⟩
theorem used_calls {w:World} {p:Nat} {size room:Int} {A A':Option Addr} {n n' c c':Nat} (h:ABlk w p size room (.slice A n c) (.slice A' n' c')) (hs:size≠0) (hn:(n:Int)<=9223372036854775807) (hn':(n':Int)<=9223372036854775807):
 Calls Tryd.prog 15 #[.pointer (some ⟨p,0,none⟩)] w fun e w'=>e = .returned (.int .i64 ((n:Int)-(n':Int)))/\Drawn0 w w':=by
 have HBk:=z_ h
 have HS:=z_ hs
 clear h hs
 go_enter Tryd.func15,Tryd.ntmps15
 go_wp2_with fail
 refine (none_calls HBk.out HS.out).mono ?_
 rintro e w' ⟨rfl,rfl⟩
 obtain ⟨c0,c1,c2,c3⟩:=HBk.out.cells
 have ws:IntKind.i64.wrap ((n:Int)-(n':Int))=(n:Int)-(n':Int):=IntWalk.i64_in _ ⟨by omega,by omega⟩
 go_wp2_with fail
 go_quiet ((go_at_call 48;(first|with_reducible exact still0 (len_calls A' n' c' _)|with_reducible exact still2 (len_calls A' n' c' _)|with_reducible exact still1 (len_calls A' n' c' _))))
 go_wp2_with fail
 go_ret
 exact ⟨rfl,⟨_,rfl⟩⟩
theorem room_calls {w:World} {p:Nat} {size room:Int} {A A':Option Addr} {n n' c c':Nat} (h:ABlk w p size room (.slice A n c) (.slice A' n' c')) (hs:size≠0) (hn:(n:Int)<=4294967296) (hn':(n':Int)<=4294967296) (hr0:0<=room) (hr1:room<=4294967296):
 Calls Tryd.prog 19 #[.pointer (some ⟨p,0,none⟩)] w fun e w'=>e = .returned (.int .i64 (room-((n:Int)-(n':Int))))/\Drawn0 w w':=by
 have HBk:=z_ h
 have HS:=z_ hs
 obtain ⟨u,hu⟩ : ∃u,u=(n:Int)-(n':Int):=⟨_,rfl⟩
 rw [<-hu]
 clear h hs
 go_enter Tryd.func19,Tryd.ntmps19
 go_wp2_with fail
 refine (none_calls HBk.out HS.out).mono ?_
 rintro e w' ⟨rfl,rfl⟩
 obtain ⟨c0,c1,c2,c3⟩:=HBk.out.cells
 have ws:IntKind.i64.wrap (room-u)=room-u:=IntWalk.i64_in _ ⟨by omega,by omega⟩
 have HU:=z_ hu
 have HUC : ∀m,Calls Tryd.prog 15 #[.pointer (some ⟨p,0,none⟩)] (w.drewN m) fun e w'=>e = .returned (.int .i64 u)/\Drawn0 (w.drewN m) w':=fun m=>by
  rw [HU.out]
  exact used_calls (w:=w.drewN m) HBk.out HS.out (by omega) (by omega)
 have HUC:=z_ HUC
 clear hu
 go_wp2_with fail
 go_quiet ((go_at_call 15;(first|with_reducible exact drawn2_quiet (HUC.out _)|with_reducible exact drawn1_quiet (HUC.out _)|exact drawn0_quiet (HUC.out 0))))
 go_wp2_with fail
 go_ret
 exact ⟨rfl,⟨_,rfl⟩⟩
theorem size_calls {w:World} {p:Nat} {size room:Int} {vc vf:Value} (h:ABlk w p size room vc vf) (hs:size≠0):
 Calls Tryd.prog 43 #[.pointer (some ⟨p,0,none⟩)] w fun e w'=>e = .returned (.int .i64 size)/\w=w':=by
 have HBk:=z_ h
 have HS:=z_ hs
 clear h hs
 go_enter Tryd.func43,Tryd.ntmps43
 go_wp2_with fail
 refine (none_calls HBk.out HS.out).mono ?_
 rintro e w' ⟨rfl,rfl⟩
 obtain ⟨c0,c1,c2,c3⟩:=HBk.out.cells
 go_wp2_with fail
 go_ret
 exact ⟨rfl,rfl⟩
theorem at_neg {w:World} {p:Nat} {size room:Int} {vc vf:Value} (h:ABlk w p size room vc vf) (hs:size≠0) (i:Int) (hi:i<0):
 Calls Tryd.prog 51 #[.pointer (some ⟨p,0,none⟩),.int .i64 i] w fun e w'=>e = .returned (.pointer none)/\w=w':=by
 have HBk:=z_ h
 have HS:=z_ hs
 have hk4:decide (i<0)=true:=decide_eq_true hi
 clear h hs hi
 go_enter Tryd.func51,Tryd.ntmps51
 go_wp2_with fail
 refine (none_calls HBk.out HS.out).mono ?_
 rintro e w' ⟨rfl,rfl⟩
 obtain ⟨c0,c1,c2,c3⟩:=HBk.out.cells
 go_wp2_with fail
 go_ret
 exact ⟨rfl,rfl⟩
theorem at_past {w:World} {p:Nat} {size room:Int} {A:Option Addr} {n c:Nat} {vf:Value} (h:ABlk w p size room (.slice A n c) vf) (hs:size≠0) (i:Int) (h0:0<=i) (hi:(n:Int)<=i):
 Calls Tryd.prog 51 #[.pointer (some ⟨p,0,none⟩),.int .i64 i] w fun e w'=>e = .returned (.pointer none)/\w=w':=by
 have HBk:=z_ h
 have HS:=z_ hs
 have hk4:decide (i<0)=false:=decide_eq_false (by omega)
 have hk5:decide ((n:Int)<=i)=true:=decide_eq_true hi
 clear h hs
 go_enter Tryd.func51,Tryd.ntmps51
 go_wp2_with fail
 refine (none_calls HBk.out HS.out).mono ?_
 rintro e w' ⟨rfl,rfl⟩
 obtain ⟨c0,c1,c2,c3⟩:=HBk.out.cells
 go_wp2_with fail
 go_ret
 exact ⟨rfl,rfl⟩
set_option maxRecDepth 100000 in
theorem new_calls (size room:Int) (w:World) (h1:1<=size) (h2:size<=32) (h3:1<=room) (h4:room<=4194304):
 Calls Tryd.prog 8 #[.int .i64 size,.int .i64 room] w fun e w'=>e = .returned (.tuple #[.pointer (some ⟨w.heap.size,0,none⟩),.int .i64 0])/\ABlk w' w.heap.size size room (.slice none 0 0) (.slice none 0 0)/\Below w.heap.size w w':=by
 have d1:decide (size<1)=false:=decide_eq_false (by omega)
 have d2:decide (32<size)=false:=decide_eq_false (by omega)
 have d3:decide (room<1)=false:=decide_eq_false (by omega)
 have d4:decide (4194304<room)=false:=decide_eq_false (by omega)
 clear h1 h2 h3 h4
 go_enter Tryd.func8,Tryd.ntmps8
 go_wp2_with fail
 go_ret2
 exact ⟨rfl,heap_alloc_new w _,below_alloc (Below.refl _ _) _⟩
def cell0:List Value:=[.bool false,.bool false,.slice none 0 0,.slice none 0 0,.int .i64 0,.int .i64 0,.slice none 0 0,.int .i64 0,.int .i64 0,.int .i64 0,.slice none 0 0]
theorem infoCell:(Tryd.prog.info? 89).map (fun i=>(i.zero,i.size,i.bytes))=some (some (.agg #[.bool false,.bool false,.slice none 0 0,.slice none 0 0,.int .i64 0,.int .i64 0,.slice none 0 0,.int .i64 0,.int .i64 0,.int .i64 0,.slice none 0 0]),11,152):=by kernel_rfl
abbrev CellsR (w:World) (base:Nat) (v:Value) (cs:List (List Value)):Prop:=Kd.R (Kd.raw 11) 89 w base (fun _=>True) v cs
theorem ABlk.grown {w w1:World} {p base:Nat} {size room:Int} {vc vf:Value} {cs:List (List Value)} (h:ABlk w p size room vc vf) (hR:CellsR w base vc cs) (hg:w.grownBy w1 vc.ownBlock):ABlk w1 p size room vc vf:=
 (hg.block p h.lt (Kd.R_ne hR h (by decide))).trans h
theorem ABlk.set2 {w:World} {p:Nat} {size room:Int} {vc vf:Value} (h:ABlk w p size room vc vf) (v:Value):ABlk (w.setCell ⟨p,2,none⟩ v) p size room v vf:=by
 have:=blk_set h 2 v
 exact this
theorem ABlk.set3 {w:World} {p:Nat} {size room:Int} {vc vf:Value} (h:ABlk w p size room vc vf) (v:Value):ABlk (w.setCell ⟨p,3,none⟩ v) p size room vc v:=by
 have:=blk_set h 3 v
 exact this
set_option maxHeartbeats 4000000 in
set_option maxRecDepth 100000 in
theorem put_grow {w:World} {p base:Nat} {size room:Int} {vc:Value} {A':Option Addr} {c':Nat} {cs:List (List Value)} (lf:Bool) (A1 A2 A5 A9:Option Addr) (n1 n2 n5 n9 c1 c2 c5 c9:Nat) (x3 x4 x6 x7 x8:Int)
 (h:ABlk w p size room vc (.slice A' 0 c')) (hR:CellsR w base vc cs) (hs:size≠0) (hb:base<=p) (hr:(cs.length:Int)<room) (hr1:room<=4194304):
 Calls Tryd.prog 74 #[.pointer (some ⟨p,0,none⟩),.agg #[.bool lf,.slice A1 n1 c1,.slice A2 n2 c2,.int .i64 x3,.int .i64 x4,.slice A5 n5 c5,.int .i64 x6,.int .i64 x7,.int .i64 x8,.slice A9 n9 c9]] w
  fun e w'=>e = .returned (.tuple #[.int .i64 (cs.length:Int),.int .i64 0])/\∃v1,ABlk w' p size room v1 (.slice A' 0 c')/\CellsR w' base v1 (cs++[[.bool true,.bool lf,.slice A1 n1 c1,.slice A2 n2 c2,.int .i64 x3,.int .i64 x4,.slice A5 n5 c5,.int .i64 x6,.int .i64 x7,.int .i64 x8,.slice A9 n9 c9]])/\
   (v1.ownBlock=vc.ownBlock\/∃b,v1.ownBlock=some b/\w.heap.size<=b)/\KeepBut w w' p vc.ownBlock/\(base<=w.heap.size->Below base w w'):=by
 obtain ⟨A,c,rfl⟩:=Kd.R_slice hR
 have HBk:=z_ h
 have HR:=z_ hR
 have HS:=z_ hs
 have HBP:=z_ hb
 obtain ⟨u,hu⟩ : ∃u,u=room-((cs.length:Int)-((0:Nat):Int)):=⟨_,rfl⟩
 have hu0:(u==0)=false:=by simp;omega
 obtain ⟨b0,hb0⟩ : ∃b,b=w.heap.size:=⟨_,rfl⟩
 have HRL:=z_ hr
 have HRM:=z_ hr1
 have HU:=z_ hu
 have HB0:=z_ hb0
 clear h hR hs hb hr hr1 hu
 go_enter Tryd.func74,Tryd.ntmps74
 go_wp2_with fail
 refine (room_calls (A:=A) (n:=cs.length) (c:=c) (HBk.out.below (below_alloc (Below.refl _ _) _)) HS.out (by have:=HRL.out;have:=HRM.out;omega) (by omega) (by have:=HRL.out;omega) (by have:=HRM.out;omega)).mono ?_
 rw [<-HU.out]
 rintro e w' ⟨rfl,⟨m,rfl⟩⟩
 obtain ⟨W1,hW1⟩ : ∃W1,W1=(w.alloc (.cells #[.bool lf,.slice A1 n1 c1,.slice A2 n2 c2,.int .i64 x3,.int .i64 x4,.slice A5 n5 c5,.int .i64 x6,.int .i64 x7,.int .i64 x8,.slice A9 n9 c9] 39)).drewN m:=⟨_,rfl⟩
 rw [<-hW1]
 have hB1:Below w.heap.size w W1:=by rw [hW1];exact pw_below_drewN (below_alloc (Below.refl _ _) _) _
 have hN1:W1.heap[w.heap.size]? = some (.cells #[.bool lf,.slice A1 n1 c1,.slice A2 n2 c2,.int .i64 x3,.int .i64 x4,.slice A5 n5 c5,.int .i64 x6,.int .i64 x7,.int .i64 x8,.slice A9 n9 c9] 39 (0,0)):=by rw [hW1];exact heap_alloc_new w _
 have HN1:=z_ hN1
 have HB1:=z_ hB1
 have HR1:=z_ (Kd.R_below HR.out hB1)
 have HBk1:=z_ (HBk.out.below hB1)
 clear hN1 hB1 hW1
 obtain ⟨k0,k1,k2,k3⟩:=HBk1.out.cells
 go_wp2_with fail
 refine (len_calls A' 0 c' _).mono ?_
 rintro e w' ⟨rfl,rfl⟩
 have hbs:base<=W1.heap.size:=by have:=HBP.out;have:=HBk1.out.lt;omega
 have HBS:=z_ hbs
 clear hbs
 go_wp2_with (first|((with_reducible refine gate_builtin (b:=.append) (xs:=#[.tmp 31,.tmp 33]) rfl ?_);go_must (at_builtin;refine Kd.R_append (Kd.raw 11) (w0:=W1) base rfl (.tmp 31) (.tmp 33) 74 89 (.agg #[.bool false,.bool false,.slice none 0 0,.slice none 0 0,.int .i64 0,.int .i64 0,.slice none 0 0,.int .i64 0,.int .i64 0,.int .i64 0,.slice none 0 0]) 152 rfl Tryd.underlying74 infoCell rfl (by decide) (by omega) (.slice A cs.length c) cs cell0 cell0 (fun _=>True) (fun _=>False) rfl rfl ?aP (fun _ h=>h.elim) ?aF ?aO ?aB ?aS ?aL ?_;(case aP=>exact ⟨rfl,rfl,by decide⟩);(case aF=>exact (fun _ _=>trivial));(case aO=>exact HR1.out);(case aB=>exact Below.refl _ _);(case aS=>exact HBS.out);(case aL=>have:=HRL.out;have:=HRM.out;omega);intro v2 w2 ho hb2 hg hat;obtain ⟨Av,cv,rfl⟩:=Kd.R_slice ho;have HO2:=z_ ho;have HG2:=z_ hg;have HAT:=z_ hat;have HB2:=z_ hb2;have HBk2:=z_ (HBk1.out.grown HR1.out hg);clear ho hb2 hg hat k0 k1 k2 k3;obtain ⟨k0,k1,k2,k3⟩:=HBk2.out.cells;have kf:=blk_frozen HBk2.out 2)))
 rw [List.length_append,show cell0 :: [] = [cell0] from rfl] at HO2
 have hO3:=Kd.R_set HO2.out HBk2.out (by decide) 2 (.slice Av (cs.length+1) cv)
 have hBk3:=HBk2.out.set2 (.slice Av (cs.length+1) cv)
 have hpw:p<w.heap.size:=HBk.out.lt
 have hN2:=(HG2.out.block w.heap.size (by have:=HB1.out.size;exact blk_lt HN1.out) (Kd.R_ne HR1.out HN1.out (by decide))).trans HN1.out
 have hN3:=blk_far hN2 (p:=⟨p,2,none⟩) (by show w.heap.size≠p;omega) (.slice Av (cs.length+1) cv)
 obtain ⟨W3,hW3⟩ : ∃W3,W3=w2.setCell ⟨p,2,none⟩ (.slice Av (cs.length+1) cv):=⟨_,rfl⟩
 rw [<-hW3] at hO3 hBk3 hN3
 rw [<-hW3]
 have HW3:=z_ hW3
 have HO3:=z_ hO3
 have HBk3:=z_ hBk3
 have HN3:=z_ hN3
 clear hO3 hBk3 hN3 hW3 hN2 hpw k0 k1 k2 k3 kf
 have hO:=HO3.out
 have hrd:=Kd.R_reads' hO
 have hn1:(cs++[cell0]).length=cs.length+1:=by simp
 obtain ⟨ad,cc,rfl,hcl,hcK,hcc⟩:=Kd.C_get hrd.2.2 ([]:List Value) (cs.length:Int) (by omega) (by rw [hn1];omega)
 obtain ⟨g,rfl⟩:=Kd.R_head hO
 have hcc0:cc=cell0:=by
  have:=hcK.1
  rw [this,Int.toNat_natCast]
  simp
 obtain rfl:=hcc0
 have HCC:=z_ hcc
 have q1:(cs.length:Int)<(cs.length:Int)+1:=by omega
 have q2:0<=(cs.length:Int):=by omega
 clear hn1 hO hrd hcl hcK hcc
 refine still_tail_at 8 (by kernel_rfl) (by kernel_rfl) (fun W hW=>?_)
 replace HBk3:Aside0 (ABlk W p size room (.slice (some ⟨g,0,none⟩) (cs.length+1) cv) (.slice A' 0 c')):=⟨by rw [hW];exact HBk3.out⟩
 replace HN3:Aside0 (W.heap[w.heap.size]? = some (.cells #[.bool lf,.slice A1 n1 c1,.slice A2 n2 c2,.int .i64 x3,.int .i64 x4,.slice A5 n5 c5,.int .i64 x6,.int .i64 x7,.int .i64 x8,.slice A9 n9 c9] 39 (0,0))):=⟨by rw [hW];exact HN3.out⟩
 replace HO3:Aside0 (CellsR W base (.slice (some ⟨g,0,none⟩) (cs.length+1) cv) (cs++[cell0])):=⟨by rw [hW];exact Kd.R_below HO3.out (below_drew (Below.refl _ _))⟩
 replace HCC:Aside0 (∀j u,cell0[j]? = some u->W.cell? ⟨g,(cs.length:Int).toNat*11+j,none⟩=some u):=⟨by rw [hW];intro j u hj;have:=HCC.out j u hj;rwa [add_plain] at this⟩
 have HW:=z_ hW
 clear hW
 obtain ⟨k0,k1,k2,k3⟩:=HBk3.out.cells
 have m0:=blk_cell HN3.out 0
 have m1:=blk_cell HN3.out 1
 have m2:=blk_cell HN3.out 2
 have m3:=blk_cell HN3.out 3
 have m4:=blk_cell HN3.out 4
 have m5:=blk_cell HN3.out 5
 have m6:=blk_cell HN3.out 6
 have m7:=blk_cell HN3.out 7
 have m8:=blk_cell HN3.out 8
 have m9:=blk_cell HN3.out 9
 simp only [List.take_succ_cons,List.take_zero,List.drop_succ_cons,List.drop_zero]
 repeat still_step
 refine wpStill_nil ?_
 clear k0 k1 k2 k3 m0 m1 m2 m3 m4 m5 m6 m7 m8 m9 q1 q2
 refine Kd.R_store (Kd.raw 11) (w0:=W) base rfl rfl 89 (.tmp 44) (.tmp 43) rfl 89 (g:=g) (n:=cs.length+1) (cap:=cv) (o':=cs.length*11) (cs.length:Int) 0 (cs++[cell0]) [.bool true,.bool lf,.slice A1 n1 c1,.slice A2 n2 c2,.int .i64 x3,.int .i64 x4,.slice A5 n5 c5,.int .i64 x6,.int .i64 x7,.int .i64 x8,.slice A9 n9 c9] (.agg #[.bool true,.bool lf,.slice A1 n1 c1,.slice A2 n2 c2,.int .i64 x3,.int .i64 x4,.slice A5 n5 c5,.int .i64 x6,.int .i64 x7,.int .i64 x8,.slice A9 n9 c9]) [.bool true,.bool lf,.slice A1 n1 c1,.slice A2 n2 c2,.int .i64 x3,.int .i64 x4,.slice A5 n5 c5,.int .i64 x6,.int .i64 x7,.int .i64 x8,.slice A9 n9 c9] cell0 (fun _=>True) (fun _=>False) rfl rfl rfl rfl (by kernel_rfl) (by intro q hq;simp only [List.mem_cons,List.not_mem_nil,or_false] at hq;rcases hq with rfl|rfl|rfl|rfl|rfl|rfl|rfl|rfl|rfl|rfl|rfl<;>rfl) HO3.out (by omega) (by omega) rfl HCC.out (Nat.le_refl 11) ⟨rfl,rfl,by intro q hq;simp only [cell0,List.take_zero,List.nil_append,List.cons_append,List.mem_cons,List.not_mem_nil,or_false,List.drop_succ_cons,List.drop_zero,List.append_nil,Nat.zero_add,List.length_cons,List.length_nil,List.drop_nil] at hq;rcases hq with rfl|rfl|rfl|rfl|rfl|rfl|rfl|rfl|rfl|rfl|rfl<;>rfl⟩ (fun _ h=>h.elim) (Below.refl _ _) ?_
 intro w4 hO4 hB4 hG4
 have HO4:=z_ hO4
 have HB4:=z_ hB4
 have HG4:=z_ hG4
 clear hO4 hB4 hG4
 go_wp2_with fail
 go_ret2
 have hgb:base<=g:=Kd.R_base HO3.out g (by simp [Value.ownBlock])
 have hgp:some p≠some g:=by
  have:=Kd.R_ne HO3.out HBk3.out (by decide)
  simpa [Value.ownBlock] using this
 have hBk4:ABlk w4 p size room (.slice (some ⟨g,0,none⟩) (cs.length+1) cv) (.slice A' 0 c'):=(HG4.out.block p HBk3.out.lt hgp).trans HBk3.out
 have hrow:=HO4.out
 rw [Int.toNat_natCast,List.set_append_right _ _ (Nat.le_refl _),Nat.sub_self] at hrow
 have s1:=HB1.out.size
 have hat:(Value.slice (some ⟨g,0,none⟩) (cs.length+1) cv).ownBlock=(Value.slice A cs.length c).ownBlock\/∃b,(Value.slice (some ⟨g,0,none⟩) (cs.length+1) cv).ownBlock=some b/\w.heap.size<=b:=by
  rcases HAT.out with h|⟨b,h,hle⟩
  ·exact .inl h
  ·exact .inr ⟨b,h,by omega⟩
 have hW3:Below base W1 W:=by
  rw [HW.out]
  have h3:Below base W1 W3:=by rw [HW3.out];exact HB2.out.setCell (by show base<=p;exact HBP.out) _
  exact below_drew1 h3
 refine ⟨rfl,_,hBk4,hrow,hat,⟨?_,?_⟩,fun hbw=>((HB1.out.mono hbw).trans hW3).trans HB4.out⟩
 ·have:=hW3.size
  have:=HB4.out.size
  omega
 ·intro i hi hip hio
  have e1:w4.heap[i]? = W.heap[i]? := by
   refine HG4.out.block i ?_ ?_
   ·have:=hW3.size
    omega
   ·rcases HAT.out with h|⟨b,h,hle⟩
    ·rw [<-h] at hio
     exact hio
    ·intro he
     have:some i=some b:=he.trans h
     injection this with this
     omega
  have e2:W.heap[i]? = w2.heap[i]? := by
   rw [HW.out]
   show W3.heap[i]? = _
   rw [HW3.out]
   exact Below.heap_setCell w2 ⟨p,2,none⟩ _ i hip
  exact e1.trans (e2.trans ((HG2.out.block i (by omega) hio).trans (HB1.out.block i hi)))
theorem wrap_run (P:Program) (ats:Array TypeId) (t:TypeId) (a:Addr) (x y:String) (w:World):Sem.run P (Builtin.ssaWrapNilChk_ ats t #[.pointer (some a),strVal x,strVal y]) w = .ok (.pointer (some a)) w:=rfl
theorem method_val {P:Program} {t e:TypeId} {name:String} {f:FuncId} (n:Nat) (h:(P.info? t).bind (fun i=>(i.methods.find? (·.name==name)).map (fun m=>(m.path.size,m.func)))=some (0,some (f,false))) (hu:P.underlying t=some (.pointer e)) (he : ∀w,Sem.run P (isAgg e) w = .ok false w) {w:World} {a:Addr} {v:Value} (hv:w.cell? a=some v):Sem.run P (method (n+1) t (.pointer (some a)) name) w = .ok (f,v) w:=by
 cases hi:P.info? t with
 | none=>rw [hi] at h;cases h
 | some i=>
   rw [hi] at h
   cases hm:i.methods.find? (·.name==name) with
   | none=>simp [hm] at h
   | some m=>
     simp [hm] at h
     obtain ⟨h1,h2⟩:=h
     rw [method]
     simp [go_sem,typeInfo,hi,hm,h1,h2,follow,receiverAt,underlying,hu,Place.get,wrap_run,he,hv]
theorem method_ptr {P:Program} {t e:TypeId} {name:String} {f:FuncId} (n:Nat) (h:(P.info? t).bind (fun i=>(i.methods.find? (·.name==name)).map (fun m=>(m.path.size,m.func)))=some (0,some (f,true))) (hu:P.underlying t=some (.pointer e)) (w:World) (v:Value):Sem.run P (method (n+1) t v name) w = .ok (f,v) w:=by
 cases hi:P.info? t with
 | none=>rw [hi] at h;cases h
 | some i=>
   rw [hi] at h
   cases hm:i.methods.find? (·.name==name) with
   | none=>simp [hm] at h
   | some m=>
     simp [hm] at h
     obtain ⟨h1,h2⟩:=h
     rw [method]
     simp [go_sem,typeInfo,hi,hm,h1,h2,follow,receiverAt,underlying,hu,Place.get]
theorem less_row:(Tryd.prog.info? 91).bind (fun i=>(i.methods.find? (·.name== "Less")).map (fun m=>(m.path.size,m.func)))=some (0,some (136,false)):=by kernel_rfl
theorem swap_row:(Tryd.prog.info? 91).bind (fun i=>(i.methods.find? (·.name== "Swap")).map (fun m=>(m.path.size,m.func)))=some (0,some (137,false)):=by kernel_rfl
theorem len_row:(Tryd.prog.info? 91).bind (fun i=>(i.methods.find? (·.name== "Len")).map (fun m=>(m.path.size,m.func)))=some (0,some (48,false)):=by kernel_rfl
theorem pop_row:(Tryd.prog.info? 91).bind (fun i=>(i.methods.find? (·.name== "Pop")).map (fun m=>(m.path.size,m.func)))=some (0,some (138,true)):=by kernel_rfl
theorem less_method {w:World} {a:Addr} {v:Value} (n:Nat) (h:w.cell? a=some v):Sem.run Tryd.prog (method (n+1) 91 (.pointer (some a)) "Less") w = .ok (136,v) w:=
 method_val n less_row Tryd.underlying91 (fun w=>by kernel_rfl) h
theorem swap_method {w:World} {a:Addr} {v:Value} (n:Nat) (h:w.cell? a=some v):Sem.run Tryd.prog (method (n+1) 91 (.pointer (some a)) "Swap") w = .ok (137,v) w:=
 method_val n swap_row Tryd.underlying91 (fun w=>by kernel_rfl) h
theorem len_method {w:World} {a:Addr} {v:Value} (n:Nat) (h:w.cell? a=some v):Sem.run Tryd.prog (method (n+1) 91 (.pointer (some a)) "Len") w = .ok (48,v) w:=
 method_val n len_row Tryd.underlying91 (fun w=>by kernel_rfl) h
theorem pop_method (w:World) (v:Value) (n:Nat):Sem.run Tryd.prog (method (n+1) 91 v "Pop") w = .ok (138,v) w:=
 method_ptr n pop_row Tryd.underlying91 w v
theorem gn_rd (l:List Int) (k:Nat):rd l (k:Int)=gn l k:=by
 unfold gn
 rfl
theorem less_calls {w:World} {ad:Addr} {n c:Nat} {l:List Int} (h:(Kd.int .i64).C w (some ad) n l) (i j:Nat) (hi:i<n) (hj:j<n):
 Calls Tryd.prog 136 #[.slice (some ad) n c,.int .i64 (i:Int),.int .i64 (j:Int)] w fun e w'=>e = .returned (.bool (decide (gn l i<gn l j)))/\Drawn0 w w':=by
 have hc1:=Kd.foot_int h (i:Int) (by omega) (by omega)
 have hc2:=Kd.foot_int h (j:Int) (by omega) (by omega)
 rw [gn_rd,Int.toNat_natCast] at hc1 hc2
 have q1:(i:Int)<(n:Int):=by omega
 have q2:(j:Int)<(n:Int):=by omega
 clear h
 go_enter Tryd.func136,Tryd.ntmps136
 go_wp2_with fail
 go_quiet (fail)
 go_wp2_with fail
 go_ret
 exact ⟨rfl,⟨_,rfl⟩⟩
abbrev FreeR (w:World) (base:Nat) (v:Value) (l:List Int):Prop:=Kd.R (Kd.int .i64) 3 w base (fun _=>True) v l
theorem FreeR.cell {w:World} {base g n c:Nat} {l:List Int} (h:FreeR w base (.slice (some ⟨g,0,none⟩) n c) l) (i:Nat) (hi:i<n):w.cell? ⟨g,i,none⟩=some (.int .i64 (gn l i))/\w.frozen? ⟨g,i,none⟩=false:=by
 have:=Kd.R_celln (0:Int) h (i:Int) (by omega) (by omega)
 rw [Int.toNat_natCast] at this
 exact this
theorem FreeR.put {w:World} {base g n c:Nat} {l:List Int} (h:FreeR w base (.slice (some ⟨g,0,none⟩) n c) l) (i:Nat) (x:Int):FreeR (w.setCell ⟨g,i,none⟩ (.int .i64 x)) base (.slice (some ⟨g,0,none⟩) n c) (l.set i x):=by
 have:=Kd.R_putn h (i:Int) x
 rw [Int.toNat_natCast] at this
 exact this
theorem FreeR.readsC {w:World} {base n c:Nat} {A:Option Addr} {l:List Int} (h:FreeR w base (.slice A n c) l):(Kd.int .i64).C w A n l:=by
 have h1:=Kd.R_reads' h
 have h2:n=l.length:=h1.1
 rw [h2]
 exact h1.2.2
theorem FreeR.len {w:World} {base n c:Nat} {A:Option Addr} {l:List Int} (h:FreeR w base (.slice A n c) l):n=l.length:=(Kd.R_reads' h).1
structure KB (w w1:World) (g:Nat):Prop where
 k:KeepBut w w1 g none
 b:Below 0 w w1
theorem KB.refl (w:World) (g:Nat):KB w w g:=⟨KeepBut.refl _ _ _,Below.refl _ _⟩
theorem KB.set {w w1:World} {g:Nat} (h:KB w w1 g) (i:Nat) (v:Value):KB w (w1.setCell ⟨g,i,none⟩ v) g:=
 ⟨⟨by rw [World.size_setCell];exact h.k.1,fun k hk hne hr=>(Below.heap_setCell w1 ⟨g,i,none⟩ v k hne).trans (h.k.2 k hk hne hr)⟩,Below.setCell h.b (Nat.zero_le _) v⟩
theorem KB.then_ {w w1 w2:World} {g:Nat} (h:KB w w1 g) (k:KB w1 w2 g):KB w w2 g:=
 ⟨⟨Nat.le_trans h.k.1 k.k.1,fun x hx hne hr=>(k.k.2 x (Nat.lt_of_lt_of_le hx h.k.1) hne hr).trans (h.k.2 x hx hne hr)⟩,h.b.trans k.b⟩
theorem KB.of_below {w w1:World} (h:Below w.heap.size w w1) (g:Nat):KB w w1 g:=⟨KeepBut.of_below h g none,h.mono (Nat.zero_le _)⟩
theorem KB.below {w w1:World} {g base:Nat} (h:KB w w1 g) (h1:base<=w.heap.size) (h2:base<=g):Below base w w1:=
 ⟨h.b.os,h.b.tape,h.b.output,h.k.1,fun k hk=>h.k.2 k (by omega) (by omega) (by simp)⟩
set_option maxHeartbeats 4000000 in
set_option maxRecDepth 100000 in
theorem swap_calls {w:World} {base g n c:Nat} {l:List Int} (hR:FreeR w base (.slice (some ⟨g,0,none⟩) n c) l) (i j:Nat) (hi:i<n) (hj:j<n):
 Calls Tryd.prog 137 #[.slice (some ⟨g,0,none⟩) n c,.int .i64 (i:Int),.int .i64 (j:Int)] w fun e w'=>e = .returned (.tuple #[])/\FreeR w' base (.slice (some ⟨g,0,none⟩) n c) (swapL l i j)/\KB w w' g:=by
 have HR:=z_ hR
 have q1:(i:Int)<(n:Int):=by omega
 have q2:(j:Int)<(n:Int):=by omega
 have HIJ:=z_ (And.intro hi hj)
 clear hR hi hj
 go_enter Tryd.func137,Tryd.ntmps137
 by_cases hij:i=j
 ·subst hij
  obtain ⟨a1,a2⟩:=FreeR.cell HR.out i HIJ.out.1
  obtain ⟨x,hx⟩ : ∃x,x=gn l i:=⟨_,rfl⟩
  rw [<-hx] at a1
  have HX:=z_ hx
  clear hx q2
  go_wp2_with fail
  go_region
  refine bodyPost_end (results_none rfl _ _ _) rfl ?_
  have h1:=FreeR.put (FreeR.put HR.out i x) i x
  have h2:=((KB.refl w g).set i (.int .i64 x)).set i (.int .i64 x)
  have hb:=below_drew (Below.refl (((w.setCell ⟨g,i,none⟩ (.int .i64 x)).setCell ⟨g,i,none⟩ (.int .i64 x)).heap.size) ((w.setCell ⟨g,i,none⟩ (.int .i64 x)).setCell ⟨g,i,none⟩ (.int .i64 x)))
  refine ⟨rfl,?_,h2.then_ (KB.of_below (below_drew (Below.refl _ _)) g)⟩
  unfold swapL
  rw [<-HX.out]
  exact Kd.R_below h1 hb
 ·have hji : ¬j=i:=fun h=>hij h.symm
  obtain ⟨a1,a2⟩:=FreeR.cell HR.out i HIJ.out.1
  obtain ⟨b1,b2⟩:=FreeR.cell HR.out j HIJ.out.2
  obtain ⟨x,hx⟩ : ∃x,x=gn l i:=⟨_,rfl⟩
  obtain ⟨y,hy⟩ : ∃y,y=gn l j:=⟨_,rfl⟩
  rw [<-hx] at a1
  rw [<-hy] at b1
  have HXY:=z_ (And.intro hx hy)
  clear hx hy
  go_wp2_with fail
  go_region
  refine bodyPost_end (results_none rfl _ _ _) rfl ?_
  have h1:=FreeR.put (FreeR.put HR.out i y) j x
  have h2:=((KB.refl w g).set i (.int .i64 y)).set j (.int .i64 x)
  have hb:=below_drew (Below.refl (((w.setCell ⟨g,i,none⟩ (.int .i64 y)).setCell ⟨g,j,none⟩ (.int .i64 x)).heap.size) ((w.setCell ⟨g,i,none⟩ (.int .i64 y)).setCell ⟨g,j,none⟩ (.int .i64 x)))
  refine ⟨rfl,?_,h2.then_ (KB.of_below (below_drew (Below.refl _ _)) g)⟩
  unfold swapL
  rw [<-HXY.out.1,<-HXY.out.2]
  exact Kd.R_below h1 hb
set_option maxHeartbeats 8000000 in
set_option maxRecDepth 100000 in
theorem down_calls {w:World} {p base:Nat} {size room:Int} {vc:Value} {g n c nn:Nat} {l:List Int} (h:ABlk w p size room vc (.slice (some ⟨g,0,none⟩) n c)) (hR:FreeR w base (.slice (some ⟨g,0,none⟩) n c) l) (hnn:nn<=n) (hn:n<=4294967296) (hD:HeapDn nn 0 l):
 Calls Tryd.prog 104 #[.iface 91 (.pointer (some ⟨p,3,none⟩)),.int .i64 0,.int .i64 (nn:Int)] w fun e w'=>(∃b:Bool,e = .returned (.bool b))/\∃l':List Int,FreeR w' base (.slice (some ⟨g,0,none⟩) n c) l'/\HeapN nn l'/\l'.Perm l/\(∀k,nn<=k->gn l' k=gn l k)/\KB w w' g:=by
 have HBk:=z_ h
 have HR:=z_ hR
 have HN:=z_ (And.intro hnn hn)
 have HD:=z_ hD
 have HGP:=z_ (show p≠g from fun e=>by have:=Kd.R_ne hR (e▸h) (by decide);simp [Value.ownBlock] at this)
 clear h hR hn hnn hD
 go_enter Tryd.func104,Tryd.ntmps104
 go_wp2_with fail
 go_loopw [7] (fun v7 wr=>∃(i:Nat) (m:List Int),v7 = .int .i64 (i:Int)/\i<=nn/\Aside0 (ABlk wr p size room vc (.slice (some ⟨g,0,none⟩) n c))/\Aside0 (FreeR wr base (.slice (some ⟨g,0,none⟩) n c) m)/\Aside0 (HeapDn nn i m/\m.Perm l/\(∀k,nn<=k->gn m k=gn l k)/\KB w wr g)) (fun v7 _=>nn-(intOf v7).toNat)
 case atStart=>exact ⟨0,l,rfl,Nat.zero_le _,HBk,HR,⟨HD.out,List.Perm.refl _,fun _ _=>rfl,KB.refl _ _⟩⟩
 case round=>
  clear HBk HR HD
  obtain ⟨i,m,rfl,hi,HBk,HR,HM⟩:=hrel
  obtain ⟨c0,c1,c2,c3⟩:=HBk.out.cells
  have hn:=HN.out.2
  have hnn:=HN.out.1
  by_cases hj:2*(i:Int)+1<(nn:Int)
  case neg=>
   have hjd:decide (2*(i:Int)+1>=(nn:Int))=true:=decide_eq_true (by omega)
   have hjd2:decide ((nn:Int)<=2*(i:Int)+1)=true:=decide_eq_true (by omega)
   have HFIN:=z_ (HM.out.1.stop (fun k h0 hk hp=>by omega))
   clear hj
   go_wp2_with fail
   go_ret
   exact ⟨⟨_,rfl⟩,m,HR.out,HFIN.out,HM.out.2.1,HM.out.2.2.1,HM.out.2.2.2⟩
  obtain ⟨j1,hj1⟩ : ∃j:Nat,2*(i:Int)+1=(j:Int):=⟨2*i+1,by omega⟩
  obtain ⟨j2,hj2⟩ : ∃j:Nat,(j1:Int)+1=(j:Int):=⟨j1+1,by omega⟩
  have hjd:decide ((j1:Int)>=(nn:Int))=false:=decide_eq_false (by omega)
  have hjd2:decide (nn<=j1)=false:=decide_eq_false (by omega)
  have hwj1:wrap64 (j1:Int)=(j1:Int):=by unfold wrap64;omega
  have hwj2:wrap64 (j2:Int)=(j2:Int):=by unfold wrap64;omega
  have hj0:decide ((j1:Int)<0)=false:=decide_eq_false (by omega)
  have HJJ:=z_ (show j1=2*i+1/\j2=2*i+2/\j1<nn/\nn<=n/\(j2<nn->j2<n) from by omega)
  clear hj
  by_cases h2:j2<nn
  ·have h2d:decide ((j2:Int)<(nn:Int))=true:=decide_eq_true (by omega)
   have h2e:decide (j2<nn)=true:=decide_eq_true h2
   replace HJJ:=z_ (And.intro h2 HJJ.out)
   clear h2
   by_cases hc:gn m j2<gn m j1
   ·have hcd:=decide_eq_true hc
    have HJ:=z_ (show 0<j2/\j2<nn/\(j2-1)/2=i/\∀k,0<k->k<nn->(k-1)/2=i->gn m j2<=gn m k from ⟨by have:=HJJ.out;omega,by have:=HJJ.out;omega,by have:=HJJ.out;omega,fun k h0 hk hp=>by
     have h3:=HJJ.out
     obtain rfl|rfl:k=j1\/k=j2:=by omega
     ·omega
     ·omega⟩)
    clear hc
    obtain ⟨c0,c1,c2,c3⟩:=HBk.out.cells
    go_wp2_with ((rw [less_method _ c3];go_upon))
    refine (less_calls (FreeR.readsC HR.out) j2 j1 (by have:=HJJ.out;omega) (by have:=HJJ.out;omega)).mono ?_
    rintro e w2 ⟨rfl,⟨q0,rfl⟩⟩
    have hb2:Below wr.heap.size wr (wr.drewN q0):=pw_below_drewN (Below.refl _ _) _
    replace HBk:=z_ (HBk.out.below hb2)
    replace HR:=z_ (Kd.R_below HR.out hb2)
    replace HM:=z_ (And.intro HM.out.1 (And.intro HM.out.2.1 (And.intro HM.out.2.2.1 (HM.out.2.2.2.then_ (KB.of_below hb2 g)))))
    clear hb2 c0 c1 c2 c3
    generalize hgw:wr.drewN q0=w2 at HBk HR HM ⊢
    clear hgw
    by_cases hl:gn m j2<gn m i
    ·have hld:=decide_eq_true hl
     have HST:=z_ (show HeapDn nn j2 (swapL m i j2) from HM.out.1.step (HJ.out.1) (HJ.out.2.1) (by have:=FreeR.len HR.out;omega) (HJ.out.2.2.1) hl (HJ.out.2.2.2))
     clear hl
     obtain ⟨c0,c1,c2,c3⟩:=HBk.out.cells
     go_wp2_with ((rw [less_method _ c3];go_upon))
     refine (less_calls (FreeR.readsC HR.out) j2 i (by have:=HJ.out;omega) (by have:=HJ.out;omega)).mono ?_
     rintro e WY ⟨rfl,⟨q,rfl⟩⟩
     have hb2:Below w2.heap.size w2 (w2.drewN q):=pw_below_drewN (Below.refl _ _) _
     replace HBk:=z_ (HBk.out.below hb2)
     replace HR:=z_ (Kd.R_below HR.out hb2)
     replace HM:=z_ (And.intro HM.out.1 (And.intro HM.out.2.1 (And.intro HM.out.2.2.1 (HM.out.2.2.2.then_ (KB.of_below hb2 g)))))
     clear hb2 c0 c1 c2 c3
     obtain ⟨c0,c1,c2,c3⟩:=HBk.out.cells
     go_wp2_with ((rw [swap_method _ c3];go_upon))
     refine (swap_calls HR.out i j2 (by have:=HJ.out;omega) (by have:=HJ.out;omega)).mono ?_
     rintro e w3 ⟨rfl,hR3,hK3⟩
     have HB3:=z_ (show ABlk w3 p size room vc (.slice (some ⟨g,0,none⟩) n c) from hK3.k.blk HBk.out (HGP.out) (by simp))
     have HR3:=z_ hR3
     have HK3:=z_ (HM.out.2.2.2.then_ hK3)
     have hlen:=FreeR.len HR.out
     have HP3:=z_ (show (swapL m i j2).Perm l from (swapL_perm (by have:=HJ.out;omega) (by have:=HJ.out;omega)).trans HM.out.2.1)
     have HG3:=z_ (show ∀k,nn<=k->gn (swapL m i j2) k=gn l k from fun k hk=>by
      rw [gn_swap (by have:=HJ.out;omega) (by have:=HJ.out;omega),if_neg (by have:=HJ.out;omega),if_neg (by have:=HJ.out;omega)]
      exact HM.out.2.2.1 k hk)
     clear hR3 hK3 hlen
     go_wp2_with fail
     have hjj:=HJ.out
     go_roundw
     case measure=>simp only [intOf];omega
     case rel=>exact ⟨j2,_,rfl,by omega,HB3,HR3,⟨HST.out,HP3.out,HG3.out,HK3.out⟩⟩
    ·have hld:=decide_eq_false hl
     have HFIN:=z_ (HM.out.1.stop (fun k h0 hk hp=>Int.le_trans (by omega) (HJ.out.2.2.2 k h0 hk hp)))
     clear hl
     obtain ⟨c0,c1,c2,c3⟩:=HBk.out.cells
     go_wp2_with ((rw [less_method _ c3];go_upon))
     refine (less_calls (FreeR.readsC HR.out) j2 i (by have:=HJ.out;omega) (by have:=HJ.out;omega)).mono ?_
     rintro e WY ⟨rfl,⟨q,rfl⟩⟩
     have hb2:Below w2.heap.size w2 (w2.drewN q):=pw_below_drewN (Below.refl _ _) _
     replace HR:=z_ (Kd.R_below HR.out hb2)
     replace HM:=z_ (And.intro HM.out.1 (And.intro HM.out.2.1 (And.intro HM.out.2.2.1 (HM.out.2.2.2.then_ (KB.of_below hb2 g)))))
     clear hb2
     go_wp2_with fail
     go_ret
     exact ⟨⟨_,rfl⟩,m,HR.out,HFIN.out,HM.out.2.1,HM.out.2.2.1,HM.out.2.2.2⟩
   ·have hcd:=decide_eq_false hc
    have HJ:=z_ (show 0<j1/\j1<nn/\(j1-1)/2=i/\∀k,0<k->k<nn->(k-1)/2=i->gn m j1<=gn m k from ⟨by have:=HJJ.out;omega,by have:=HJJ.out;omega,by have:=HJJ.out;omega,fun k h0 hk hp=>by
     have h3:=HJJ.out
     obtain rfl|rfl:k=j1\/k=j2:=by omega
     ·omega
     ·omega⟩)
    clear hc
    obtain ⟨c0,c1,c2,c3⟩:=HBk.out.cells
    go_wp2_with ((rw [less_method _ c3];go_upon))
    refine (less_calls (FreeR.readsC HR.out) j2 j1 (by have:=HJJ.out;omega) (by have:=HJJ.out;omega)).mono ?_
    rintro e w2 ⟨rfl,⟨q0,rfl⟩⟩
    have hb2:Below wr.heap.size wr (wr.drewN q0):=pw_below_drewN (Below.refl _ _) _
    replace HBk:=z_ (HBk.out.below hb2)
    replace HR:=z_ (Kd.R_below HR.out hb2)
    replace HM:=z_ (And.intro HM.out.1 (And.intro HM.out.2.1 (And.intro HM.out.2.2.1 (HM.out.2.2.2.then_ (KB.of_below hb2 g)))))
    clear hb2 c0 c1 c2 c3
    generalize hgw:wr.drewN q0=w2 at HBk HR HM ⊢
    clear hgw
    by_cases hl:gn m j1<gn m i
    ·have hld:=decide_eq_true hl
     have HST:=z_ (show HeapDn nn j1 (swapL m i j1) from HM.out.1.step (HJ.out.1) (HJ.out.2.1) (by have:=FreeR.len HR.out;omega) (HJ.out.2.2.1) hl (HJ.out.2.2.2))
     clear hl
     obtain ⟨c0,c1,c2,c3⟩:=HBk.out.cells
     go_wp2_with ((rw [less_method _ c3];go_upon))
     refine (less_calls (FreeR.readsC HR.out) j1 i (by have:=HJ.out;omega) (by have:=HJ.out;omega)).mono ?_
     rintro e WY ⟨rfl,⟨q,rfl⟩⟩
     have hb2:Below w2.heap.size w2 (w2.drewN q):=pw_below_drewN (Below.refl _ _) _
     replace HBk:=z_ (HBk.out.below hb2)
     replace HR:=z_ (Kd.R_below HR.out hb2)
     replace HM:=z_ (And.intro HM.out.1 (And.intro HM.out.2.1 (And.intro HM.out.2.2.1 (HM.out.2.2.2.then_ (KB.of_below hb2 g)))))
     clear hb2 c0 c1 c2 c3
     obtain ⟨c0,c1,c2,c3⟩:=HBk.out.cells
     go_wp2_with ((rw [swap_method _ c3];go_upon))
     refine (swap_calls HR.out i j1 (by have:=HJ.out;omega) (by have:=HJ.out;omega)).mono ?_
     rintro e w3 ⟨rfl,hR3,hK3⟩
     have HB3:=z_ (show ABlk w3 p size room vc (.slice (some ⟨g,0,none⟩) n c) from hK3.k.blk HBk.out (HGP.out) (by simp))
     have HR3:=z_ hR3
     have HK3:=z_ (HM.out.2.2.2.then_ hK3)
     have hlen:=FreeR.len HR.out
     have HP3:=z_ (show (swapL m i j1).Perm l from (swapL_perm (by have:=HJ.out;omega) (by have:=HJ.out;omega)).trans HM.out.2.1)
     have HG3:=z_ (show ∀k,nn<=k->gn (swapL m i j1) k=gn l k from fun k hk=>by
      rw [gn_swap (by have:=HJ.out;omega) (by have:=HJ.out;omega),if_neg (by have:=HJ.out;omega),if_neg (by have:=HJ.out;omega)]
      exact HM.out.2.2.1 k hk)
     clear hR3 hK3 hlen
     go_wp2_with fail
     have hjj:=HJ.out
     go_roundw
     case measure=>simp only [intOf];omega
     case rel=>exact ⟨j1,_,rfl,by omega,HB3,HR3,⟨HST.out,HP3.out,HG3.out,HK3.out⟩⟩
    ·have hld:=decide_eq_false hl
     have HFIN:=z_ (HM.out.1.stop (fun k h0 hk hp=>Int.le_trans (by omega) (HJ.out.2.2.2 k h0 hk hp)))
     clear hl
     obtain ⟨c0,c1,c2,c3⟩:=HBk.out.cells
     go_wp2_with ((rw [less_method _ c3];go_upon))
     refine (less_calls (FreeR.readsC HR.out) j1 i (by have:=HJ.out;omega) (by have:=HJ.out;omega)).mono ?_
     rintro e WY ⟨rfl,⟨q,rfl⟩⟩
     have hb2:Below w2.heap.size w2 (w2.drewN q):=pw_below_drewN (Below.refl _ _) _
     replace HR:=z_ (Kd.R_below HR.out hb2)
     replace HM:=z_ (And.intro HM.out.1 (And.intro HM.out.2.1 (And.intro HM.out.2.2.1 (HM.out.2.2.2.then_ (KB.of_below hb2 g)))))
     clear hb2
     go_wp2_with fail
     go_ret
     exact ⟨⟨_,rfl⟩,m,HR.out,HFIN.out,HM.out.2.1,HM.out.2.2.1,HM.out.2.2.2⟩
  ·have h2d:decide ((j2:Int)<(nn:Int))=false:=decide_eq_false (by omega)
   have h2e:decide (j2<nn)=false:=decide_eq_false h2
   have HJ:=z_ (show 0<j1/\j1<nn/\(j1-1)/2=i/\∀k,0<k->k<nn->(k-1)/2=i->gn m j1<=gn m k from ⟨by have:=HJJ.out;omega,by have:=HJJ.out;omega,by have:=HJJ.out;omega,fun k h0 hk hp=>by
    have h3:=HJJ.out
    obtain rfl:k=j1:=by omega
    omega⟩)
   clear h2
   by_cases hl:gn m j1<gn m i
   ·have hld:=decide_eq_true hl
    have HST:=z_ (show HeapDn nn j1 (swapL m i j1) from HM.out.1.step (HJ.out.1) (HJ.out.2.1) (by have:=FreeR.len HR.out;omega) (HJ.out.2.2.1) hl (HJ.out.2.2.2))
    clear hl
    obtain ⟨c0,c1,c2,c3⟩:=HBk.out.cells
    go_wp2_with ((rw [less_method _ c3];go_upon))
    refine (less_calls (FreeR.readsC HR.out) j1 i (by have:=HJ.out;omega) (by have:=HJ.out;omega)).mono ?_
    rintro e WY ⟨rfl,⟨q,rfl⟩⟩
    have hb2:Below wr.heap.size wr (wr.drewN q):=pw_below_drewN (Below.refl _ _) _
    replace HBk:=z_ (HBk.out.below hb2)
    replace HR:=z_ (Kd.R_below HR.out hb2)
    replace HM:=z_ (And.intro HM.out.1 (And.intro HM.out.2.1 (And.intro HM.out.2.2.1 (HM.out.2.2.2.then_ (KB.of_below hb2 g)))))
    clear hb2 c0 c1 c2 c3
    obtain ⟨c0,c1,c2,c3⟩:=HBk.out.cells
    go_wp2_with ((rw [swap_method _ c3];go_upon))
    refine (swap_calls HR.out i j1 (by have:=HJ.out;omega) (by have:=HJ.out;omega)).mono ?_
    rintro e w3 ⟨rfl,hR3,hK3⟩
    have HB3:=z_ (show ABlk w3 p size room vc (.slice (some ⟨g,0,none⟩) n c) from hK3.k.blk HBk.out (HGP.out) (by simp))
    have HR3:=z_ hR3
    have HK3:=z_ (HM.out.2.2.2.then_ hK3)
    have hlen:=FreeR.len HR.out
    have HP3:=z_ (show (swapL m i j1).Perm l from (swapL_perm (by have:=HJ.out;omega) (by have:=HJ.out;omega)).trans HM.out.2.1)
    have HG3:=z_ (show ∀k,nn<=k->gn (swapL m i j1) k=gn l k from fun k hk=>by
     rw [gn_swap (by have:=HJ.out;omega) (by have:=HJ.out;omega),if_neg (by have:=HJ.out;omega),if_neg (by have:=HJ.out;omega)]
     exact HM.out.2.2.1 k hk)
    clear hR3 hK3 hlen
    go_wp2_with fail
    have hjj:=HJ.out
    go_roundw
    case measure=>simp only [intOf];omega
    case rel=>exact ⟨j1,_,rfl,by omega,HB3,HR3,⟨HST.out,HP3.out,HG3.out,HK3.out⟩⟩
   ·have hld:=decide_eq_false hl
    have HFIN:=z_ (HM.out.1.stop (fun k h0 hk hp=>Int.le_trans (by omega) (HJ.out.2.2.2 k h0 hk hp)))
    clear hl
    obtain ⟨c0,c1,c2,c3⟩:=HBk.out.cells
    go_wp2_with ((rw [less_method _ c3];go_upon))
    refine (less_calls (FreeR.readsC HR.out) j1 i (by have:=HJ.out;omega) (by have:=HJ.out;omega)).mono ?_
    rintro e WY ⟨rfl,⟨q,rfl⟩⟩
    have hb2:Below wr.heap.size wr (wr.drewN q):=pw_below_drewN (Below.refl _ _) _
    replace HR:=z_ (Kd.R_below HR.out hb2)
    replace HM:=z_ (And.intro HM.out.1 (And.intro HM.out.2.1 (And.intro HM.out.2.2.1 (HM.out.2.2.2.then_ (KB.of_below hb2 g)))))
    clear hb2
    go_wp2_with fail
    go_ret
    exact ⟨⟨_,rfl⟩,m,HR.out,HFIN.out,HM.out.2.1,HM.out.2.2.1,HM.out.2.2.2⟩
theorem assert_run (x:Int) (xt:TypeId) (w:World):Sem.run Tryd.prog (Instr.typeAssert (.iface 3 (.int .i64 x)) xt 3 false) w = .ok (.int .i64 x) w:=by kernel_rfl
set_option maxHeartbeats 4000000 in
set_option maxRecDepth 100000 in
theorem popm_calls {w:World} {p base:Nat} {size room:Int} {vc:Value} {g n c:Nat} {l:List Int} (h:ABlk w p size room vc (.slice (some ⟨g,0,none⟩) n c)) (hR:FreeR w base (.slice (some ⟨g,0,none⟩) n c) l) (k:Nat) (hk:n=k+1) (hn:n<=4294967296) (hc:n<=c):
 Calls Tryd.prog 138 #[.pointer (some ⟨p,3,none⟩)] w fun e w'=>e = .returned (.iface 3 (.int .i64 (gn l k)))/\ABlk w' p size room vc (.slice (some ⟨g,0,none⟩) k c)/\FreeR w' base (.slice (some ⟨g,0,none⟩) k c) (l.take k)/\KB w w' p:=by
 have HBk:=z_ h
 have HR:=z_ hR
 have HN:=z_ hn
 have hx:=(FreeR.cell hR k (by omega)).1
 obtain ⟨x,hxe⟩ : ∃x,x=gn l k:=⟨_,rfl⟩
 rw [<-hxe] at hx
 rw [<-hxe]
 have hnk:(n:Int)-1=(k:Int):=by omega
 have hwk:wrap64 (k:Int)=(k:Int):=by unfold wrap64;omega
 have q1:(k:Int)<(n:Int):=by omega
 have q2:(k:Int)<=(c:Int):=by omega
 have q3:k<=c:=by omega
 have HK:=z_ hk
 obtain ⟨c0,c1,c2,c3⟩:=h.cells
 have f3:=blk_frozen h 3
 clear h hR hn hxe hk hc
 go_enter Tryd.func138,Tryd.ntmps138
 go_wp2_with fail
 go_ret
 refine ⟨rfl,HBk.out.set3 _,?_,?_⟩
 ·have h1:=Kd.R_take (m:=k) HR.out (by have:=FreeR.len HR.out;have:=HK.out;omega)
  exact Kd.R_set h1 HBk.out (by decide) 3 _
 ·exact (KB.refl w p).set 3 _
theorem own_some {g n c:Nat}:(Value.slice (some ⟨g,0,none⟩) n c).ownBlock=some g:=by simp [Value.ownBlock]
set_option maxHeartbeats 4000000 in
set_option maxRecDepth 100000 in
theorem hpop_calls {w:World} {p base:Nat} {size room:Int} {vc:Value} {g c:Nat} {l:List Int} (k:Nat) (h:ABlk w p size room vc (.slice (some ⟨g,0,none⟩) (k+1) c)) (hR:FreeR w base (.slice (some ⟨g,0,none⟩) (k+1) c) l) (hl:k<4294967295) (hH:HeapN (k+1) l) (hb:base<=p):
 Calls Tryd.prog 95 #[.iface 91 (.pointer (some ⟨p,3,none⟩))] w fun e w'=>e = .returned (.iface 3 (.int .i64 (gn l 0)))/\∃l',ABlk w' p size room vc (.slice (some ⟨g,0,none⟩) k c)/\FreeR w' base (.slice (some ⟨g,0,none⟩) k c) l'/\HeapN l'.length l'/\(l'++[gn l 0]).Perm l/\KeepBut w w' p (some g)/\Below base w w':=by
 have HBk:=z_ h
 have HR:=z_ hR
 have HBP:=z_ hb
 have HL:=z_ hl
 have HH:=z_ hH
 have HLEN:=z_ (FreeR.len hR)
 have HC:=z_ (Kd.R_reads' hR).2.1
 have HGP:=z_ (show p≠g from fun e=>by have:=Kd.R_ne hR (e▸h) (by decide);simp [Value.ownBlock] at this)
 obtain ⟨n,hn⟩ : ∃n,n=k+1:=⟨_,rfl⟩
 rw [<-hn] at h
 have HN:=z_ hn
 rw [<-hn] at HBk HR HH HLEN HC
 obtain ⟨c0,c1,c2,c3⟩:=h.cells
 have hnk:(n:Int)-1=(k:Int):=by omega
 have hwk:wrap64 (k:Int)=(k:Int):=by unfold wrap64;omega
 clear h hR hb hl hH hn
 go_enter Tryd.func95,Tryd.ntmps95
 go_wp2_with ((rw [len_method _ c3];go_upon))
 refine (len_calls _ _ _ _).mono ?_
 rintro e w' ⟨rfl,rfl⟩
 go_wp2_with ((rw [swap_method _ c3];go_upon))
 refine (swap_calls HR.out 0 k (by have:=HN.out;omega) (by have:=HN.out;omega)).mono ?_
 rintro e w1 ⟨rfl,hR1,hK1⟩
 have HB1:=z_ (show ABlk w1 p size room vc (.slice (some ⟨g,0,none⟩) n c) from hK1.k.blk HBk.out HGP.out (by simp))
 have HR1:=z_ hR1
 have HK1:=z_ hK1
 have HD:=z_ (show HeapDn k 0 (swapL l 0 k) by
  have h1:=HH.out
  rw [HLEN.out] at h1
  exact h1.swap_last (by have:=HLEN.out;have:=HN.out;omega))
 clear hR1 hK1 c0 c1 c2 c3
 go_wp2_with fail
 refine (down_calls HB1.out HR1.out (nn:=k) (by have:=HN.out;omega) (by have:=HN.out;have:=HL.out;omega) HD.out).mono ?_
 rintro e w2 ⟨⟨b,rfl⟩,l2,hR2,hH2,hP2,hG2,hK2⟩
 have HB2:=z_ (show ABlk w2 p size room vc (.slice (some ⟨g,0,none⟩) n c) from hK2.k.blk HB1.out HGP.out (by simp))
 have HR2:=z_ hR2
 have HK2:=z_ (HK1.out.then_ hK2)
 have hi0:0<l.length:=by have:=HLEN.out;have:=HN.out;omega
 have hik:k<l.length:=by have:=HLEN.out;have:=HN.out;omega
 have HLST:=z_ (show gn l2 k=gn l 0 by rw [hG2 k (Nat.le_refl _),gn_swap hi0 hik,if_pos rfl])
 have hl2:=FreeR.len hR2
 have HFIN:=z_ (show HeapN (l2.take k).length (l2.take k)/\(l2.take k++[gn l 0]).Perm l by
  have h1:(l2.take k).length=k:=by rw [List.length_take];have:=HN.out;omega
  refine ⟨by rw [h1];exact hH2.take,?_⟩
  have h2:l2.take k++[gn l 0]=l2:=by
   have h3:k<l2.length:=by have:=HN.out;omega
   rw [<-HLST.out,gn_lt h3]
   have h4:l2.drop k = [l2[k]]:=by
    rw [List.drop_eq_getElem_cons h3,List.drop_of_length_le (by have:=HN.out;omega)]
   rw [<-h4,List.take_append_drop]
  rw [h2]
  exact hP2.trans (swapL_perm hi0 hik))
 clear hR2 hH2 hP2 hG2 hK2 hl2 hi0 hik
 go_wp2_with ((rw [pop_method];go_upon))
 refine (popm_calls HB2.out HR2.out k HN.out (by have:=HN.out;have:=HL.out;omega) (by have:=HC.out;have:=HLEN.out;omega)).mono ?_
 rintro e w3 ⟨rfl,hB3,hR3,hK3⟩
 rw [HLST.out]
 have HB3:=z_ hB3
 have HR3:=z_ hR3
 have HK3:=z_ (show KeepBut w w3 p (some g) from ⟨Nat.le_trans HK2.out.k.1 hK3.k.1,fun x hx hne hr=>(hK3.k.2 x (Nat.lt_of_lt_of_le hx HK2.out.k.1) hne (by simp)).trans (HK2.out.k.2 x hx (fun e=>hr (by rw [e])) (by simp))⟩)
 have HBel:=z_ (show Below base w w3 from by
  have hgb:base<=g:=own_base (Kd.R_own hR3).choose_spec g own_some
  have hpb:=HBP.out
  have hbs:base<=w.heap.size:=by have:=HBk.out.lt;omega
  exact (HK2.out.below hbs hgb).trans (hK3.below (Nat.le_trans hbs HK2.out.k.1) hpb))
 clear hB3 hR3 hK3
 go_wp2_with fail
 go_ret
 exact ⟨rfl,_,HB3.out,HR3.out,HFIN.out.1,HFIN.out.2,HK3.out,HBel.out⟩
theorem CellsR.keepF {w w1:World} {base p:Nat} {size room:Int} {vc v vf:Value} {rows:List (List Value)} {l:List Int} (h:CellsR w base v rows) (hB:ABlk w p size room vc vf) (hF:FreeR w base vf l) (hk:KeepBut w w1 p vf.ownBlock):CellsR w1 base v rows:=by
 have h1:=Kd.R_types h hB (by decide)
 cases ho:vf.ownBlock with
 | none=>exact Kd.R_mono (Kd.R_step h1 (fun k hk1 hlt=>hk.2 k hlt hk1.2 (by rw [ho];simp))) (fun _ _=>trivial)
 | some g=>
   obtain ⟨cells,hc⟩:=own_typed (Kd.R_own hF).choose_spec g ho
   have h2:=Kd.R_types h1 hc (by decide)
   exact Kd.R_mono (Kd.R_step h2 (fun k hk1 hlt=>hk.2 k hlt hk1.1.2 (by rw [ho];intro e;exact hk1.2 (Option.some.inj e)))) (fun _ _=>trivial)
theorem raw_row {w:World} {base:Nat} {v:Value} {rows:List (List Value)} (h:CellsR w base v rows) (k:Nat) (r:List Value) (hr:rows[k]? = some r):r.length=11/\∃g c,v = .slice (some ⟨g,0,none⟩) rows.length c/\∀j u,r[j]? = some u->w.cell? ⟨g,k*11+j,none⟩=some u:=by
 obtain ⟨A,c,rfl⟩:=Kd.R_slice h
 have hkl:=(List.getElem?_eq_some_iff.1 hr).1
 have hrd:=Kd.R_reads' h
 obtain ⟨ad,cc,e,hcl,hcK,hcc⟩:=Kd.C_get hrd.2.2 ([]:List Value) (k:Int) (by omega) (by omega)
 subst e
 obtain ⟨g,rfl⟩:=Kd.R_head h
 have h0:=hcK.1
 rw [Int.toNat_natCast,List.getD_eq_getElem?_getD,hr] at h0
 have h1:cc=r:=h0
 refine ⟨by rw [<-h1];exact hcl,g,c,rfl,fun j u hj=>?_⟩
 have:=hcc j u (by rw [h1];exact hj)
 rwa [Int.toNat_natCast,add_plain] at this
set_option maxHeartbeats 8000000 in
set_option maxRecDepth 100000 in
theorem put_pop {w:World} {p base:Nat} {size room:Int} {vc:Value} {g k c:Nat} {l:List Int} {rows:List (List Value)} (lf:Bool) (A1 A2 A5 A9:Option Addr) (n1 n2 n5 n9 c1 c2 c5 c9:Nat) (x3 x4 x6 x7 x8:Int)
 (h:ABlk w p size room vc (.slice (some ⟨g,0,none⟩) (k+1) c)) (hR:CellsR w base vc rows) (hF:FreeR w base (.slice (some ⟨g,0,none⟩) (k+1) c) l) (hH:HeapN (k+1) l) (j:Nat) (hj:gn l 0=(j:Int)) (hjr:j<rows.length) (hs:size≠0) (hb:base<=p) (hr:(rows.length:Int)-((k+1:Nat):Int)<room) (hr0:1<=room) (hr1:room<=4194304) (hrl:rows.length<=4194304) (hkl:k<rows.length):
 Calls Tryd.prog 74 #[.pointer (some ⟨p,0,none⟩),.agg #[.bool lf,.slice A1 n1 c1,.slice A2 n2 c2,.int .i64 x3,.int .i64 x4,.slice A5 n5 c5,.int .i64 x6,.int .i64 x7,.int .i64 x8,.slice A9 n9 c9]] w
  fun e w'=>e = .returned (.tuple #[.int .i64 (j:Int),.int .i64 0])/\∃l',ABlk w' p size room vc (.slice (some ⟨g,0,none⟩) k c)/\CellsR w' base vc (rows.set j [.bool true,.bool lf,.slice A1 n1 c1,.slice A2 n2 c2,.int .i64 x3,.int .i64 x4,.slice A5 n5 c5,.int .i64 x6,.int .i64 x7,.int .i64 x8,.slice A9 n9 c9])/\FreeR w' base (.slice (some ⟨g,0,none⟩) k c) l'/\HeapN l'.length l'/\(l'++[(j:Int)]).Perm l/\
   (∀x,x<w.heap.size->x≠p->x≠g->some x≠vc.ownBlock->w'.heap[x]? = w.heap[x]?)/\Below base w w':=by
 obtain ⟨r,hrow⟩ : ∃r,rows[j]? = some r:=⟨_,List.getElem?_eq_getElem hjr⟩
 obtain ⟨hrl11,gc,cc,rfl,hcells⟩:=raw_row hR j r hrow
 have HBk:=z_ h
 have HR:=z_ hR
 have HF:=z_ hF
 have HH:=z_ hH
 have HS:=z_ hs
 have HBP:=z_ hb
 have HROW:=z_ (And.intro hrow hrl11)
 have HJ:=z_ (And.intro hj hjr)
 obtain ⟨n,hn⟩ : ∃n,n=k+1:=⟨_,rfl⟩
 obtain ⟨u,hu⟩ : ∃u,u=room-((rows.length:Int)-(n:Int)):=⟨_,rfl⟩
 have hu0:(u==0)=false:=by simp;omega
 have HRL:=z_ (show n<=rows.length/\rows.length<=4194304/\1<=room/\room<=4194304/\(rows.length:Int)-(n:Int)<room by omega)
 have HU:=z_ hu
 have HN:=z_ hn
 have hn0:decide (0<(n:Int))=true:=decide_eq_true (by omega)
 have hn00:decide (0<n)=true:=decide_eq_true (by omega)
 rw [<-hn] at HBk HF HH
 have HGL:=z_ (show g<w.heap.size from own_lt (Kd.R_own hF).choose_spec g own_some)
 clear h hR hF hH hs hb hr hr0 hr1 hu hrow hrl11 hj hjr hcells hkl hrl hn
 go_enter Tryd.func74,Tryd.ntmps74
 go_wp2_with fail
 refine (room_calls (A:=some ⟨gc,0,none⟩) (n:=rows.length) (c:=cc) (HBk.out.below (below_alloc (Below.refl _ _) _)) HS.out (by have:=HRL.out;omega) (by have:=HRL.out;omega) (by have:=HRL.out;omega) (by have:=HRL.out;omega)).mono ?_
 rw [<-HU.out]
 rintro e w' ⟨rfl,⟨m,rfl⟩⟩
 obtain ⟨W1,hW1⟩ : ∃W1,W1=(w.alloc (.cells #[.bool lf,.slice A1 n1 c1,.slice A2 n2 c2,.int .i64 x3,.int .i64 x4,.slice A5 n5 c5,.int .i64 x6,.int .i64 x7,.int .i64 x8,.slice A9 n9 c9] 39)).drewN m:=⟨_,rfl⟩
 rw [<-hW1]
 have hB1:Below w.heap.size w W1:=by rw [hW1];exact pw_below_drewN (below_alloc (Below.refl _ _) _) _
 have hN1:W1.heap[w.heap.size]? = some (.cells #[.bool lf,.slice A1 n1 c1,.slice A2 n2 c2,.int .i64 x3,.int .i64 x4,.slice A5 n5 c5,.int .i64 x6,.int .i64 x7,.int .i64 x8,.slice A9 n9 c9] 39 (0,0)):=by rw [hW1];exact heap_alloc_new w _
 have HN1:=z_ hN1
 have HB1:=z_ hB1
 have HR1:=z_ (Kd.R_below HR.out hB1)
 have HF1:=z_ (Kd.R_below HF.out hB1)
 have HBk1:=z_ (HBk.out.below hB1)
 clear hN1 hB1 hW1
 obtain ⟨k0,k1,k2,k3⟩:=HBk1.out.cells
 go_wp2_with fail
 refine (len_calls (some ⟨g,0,none⟩) n c _).mono ?_
 rintro e w' ⟨rfl,rfl⟩
 go_wp2_with fail
 have hBk1:=HBk1.out
 have hF1:=HF1.out
 have hH:=HH.out
 rw [HN.out] at hBk1 hF1 hH
 refine (hpop_calls k hBk1 hF1 (by have:=HRL.out;have:=HN.out;omega) hH HBP.out).mono ?_
 rw [HJ.out.1]
 rintro e w2 ⟨rfl,l2,hB2,hF2,hH2,hP2,hK2,hBel2⟩
 have HR2:=z_ (CellsR.keepF HR1.out hBk1 hF1 (by rw [own_some];exact hK2))
 have HBk2:=z_ hB2
 have HF2:=z_ hF2
 have HFIN:=z_ (And.intro hH2 hP2)
 have HN2:=z_ (show w2.heap[w.heap.size]? = some (.cells #[.bool lf,.slice A1 n1 c1,.slice A2 n2 c2,.int .i64 x3,.int .i64 x4,.slice A5 n5 c5,.int .i64 x6,.int .i64 x7,.int .i64 x8,.slice A9 n9 c9] 39 (0,0)) from (hK2.2 w.heap.size (blk_lt HN1.out) (by have:=HBk.out.lt;omega) (by have:=HGL.out;simp;omega)).trans HN1.out)
 have HK2:=z_ hK2
 have HBel2:=z_ hBel2
 clear hB2 hF2 hH2 hP2 hK2 hBel2 hBk1 hF1 hH k0 k1 k2 k3
 obtain ⟨k0,k1,k2,k3⟩:=HBk2.out.cells
 go_wp2_with ((rw [assert_run];go_upon))
 have q1:(j:Int)<(rows.length:Int):=by have:=HJ.out.2;omega
 have q2:0<=(j:Int):=by omega
 refine still_tail_at 8 (by kernel_rfl) (by kernel_rfl) (fun W hW=>?_)
 have hbw:Below w2.heap.size w2 W:=by rw [hW];exact below_drew (Below.refl _ _)
 have HBk3:=z_ (HBk2.out.below hbw)
 have HN3:=z_ (blk_below HN2.out hbw)
 have HR3:=z_ (Kd.R_below HR2.out hbw)
 have HF3:=z_ (Kd.R_below HF2.out hbw)
 have HBW:=z_ hbw
 clear hW hbw k0 k1 k2 k3
 obtain ⟨k0,k1,k2,k3⟩:=HBk3.out.cells
 have m0:=blk_cell HN3.out 0
 have m1:=blk_cell HN3.out 1
 have m2:=blk_cell HN3.out 2
 have m3:=blk_cell HN3.out 3
 have m4:=blk_cell HN3.out 4
 have m5:=blk_cell HN3.out 5
 have m6:=blk_cell HN3.out 6
 have m7:=blk_cell HN3.out 7
 have m8:=blk_cell HN3.out 8
 have m9:=blk_cell HN3.out 9
 simp only [List.take_succ_cons,List.take_zero,List.drop_succ_cons,List.drop_zero]
 repeat still_step
 refine wpStill_nil ?_
 clear k0 k1 k2 k3 m0 m1 m2 m3 m4 m5 m6 m7 m8 m9 q1 q2
 have hold : ∀jj u,r[jj]? = some u->W.cell? ⟨gc,(j:Int).toNat*11+jj,none⟩=some u:=by
  obtain ⟨_,g2,c2',e,hc⟩:=raw_row HR3.out j r HROW.out.1
  injection e with e1 e2 e3
  injection e1 with e1
  injection e1 with e1
  rw [Int.toNat_natCast,e1]
  exact hc
 have hnew:r.take 0++[.bool true,.bool lf,.slice A1 n1 c1,.slice A2 n2 c2,.int .i64 x3,.int .i64 x4,.slice A5 n5 c5,.int .i64 x6,.int .i64 x7,.int .i64 x8,.slice A9 n9 c9]++r.drop (0+11) = [.bool true,.bool lf,.slice A1 n1 c1,.slice A2 n2 c2,.int .i64 x3,.int .i64 x4,.slice A5 n5 c5,.int .i64 x6,.int .i64 x7,.int .i64 x8,.slice A9 n9 c9]:=by
  rw [List.drop_of_length_le (by have:=HROW.out.2;omega)]
  rfl
 refine Kd.R_store (Kd.raw 11) (w0:=W) base rfl rfl 89 (.tmp 44) (.tmp 43) rfl 89 (g:=gc) (n:=rows.length) (cap:=cc) (o':=j*11) (j:Int) 0 rows [.bool true,.bool lf,.slice A1 n1 c1,.slice A2 n2 c2,.int .i64 x3,.int .i64 x4,.slice A5 n5 c5,.int .i64 x6,.int .i64 x7,.int .i64 x8,.slice A9 n9 c9] (.agg #[.bool true,.bool lf,.slice A1 n1 c1,.slice A2 n2 c2,.int .i64 x3,.int .i64 x4,.slice A5 n5 c5,.int .i64 x6,.int .i64 x7,.int .i64 x8,.slice A9 n9 c9]) [.bool true,.bool lf,.slice A1 n1 c1,.slice A2 n2 c2,.int .i64 x3,.int .i64 x4,.slice A5 n5 c5,.int .i64 x6,.int .i64 x7,.int .i64 x8,.slice A9 n9 c9] r (fun _=>True) (fun _=>False) rfl rfl rfl rfl (by kernel_rfl) ?aOne HR3.out (by omega) (by have:=HJ.out.2;omega) HROW.out.2 hold (Nat.le_refl 11) ?aM (fun _ h=>h.elim) (Below.refl _ _) ?_
 case aOne=>intro q hq;simp only [List.mem_cons,List.not_mem_nil,or_false] at hq;rcases hq with rfl|rfl|rfl|rfl|rfl|rfl|rfl|rfl|rfl|rfl|rfl<;>rfl
 case aM=>
  have h2:(Kd.raw 11).M W base (fun _=>False) [.bool true,.bool lf,.slice A1 n1 c1,.slice A2 n2 c2,.int .i64 x3,.int .i64 x4,.slice A5 n5 c5,.int .i64 x6,.int .i64 x7,.int .i64 x8,.slice A9 n9 c9] [.bool true,.bool lf,.slice A1 n1 c1,.slice A2 n2 c2,.int .i64 x3,.int .i64 x4,.slice A5 n5 c5,.int .i64 x6,.int .i64 x7,.int .i64 x8,.slice A9 n9 c9]:=⟨rfl,rfl,by intro q hq;simp only [List.mem_cons,List.not_mem_nil,or_false] at hq;rcases hq with rfl|rfl|rfl|rfl|rfl|rfl|rfl|rfl|rfl|rfl|rfl<;>rfl⟩
  rw [<-hnew] at h2
  have h3:=h2
  rw [hnew] at h3
  exact (show (Kd.raw 11).M W base (fun _=>False) [.bool true,.bool lf,.slice A1 n1 c1,.slice A2 n2 c2,.int .i64 x3,.int .i64 x4,.slice A5 n5 c5,.int .i64 x6,.int .i64 x7,.int .i64 x8,.slice A9 n9 c9] (r.take 0++[.bool true,.bool lf,.slice A1 n1 c1,.slice A2 n2 c2,.int .i64 x3,.int .i64 x4,.slice A5 n5 c5,.int .i64 x6,.int .i64 x7,.int .i64 x8,.slice A9 n9 c9]++r.drop (0+11)) from by rw [hnew];exact h3)
 intro w4 hO4 hB4 hG4
 have HO4:=z_ hO4
 have HB4:=z_ hB4
 have HG4:=z_ hG4
 clear hO4 hB4 hG4 hold hnew
 go_wp2_with fail
 go_ret2
 have hgp:some p≠some gc:=by
  have:=Kd.R_ne HR3.out HBk3.out (by decide)
  simpa [Value.ownBlock] using this
 have hgg:gc≠g:=by
  obtain ⟨cells,hcg⟩:=own_typed (Kd.R_own HF3.out).choose_spec g own_some
  have:=Kd.R_ne HR3.out hcg (by decide)
  intro e
  exact this (by rw [own_some,e])
 have hBk4:ABlk w4 p size room (.slice (some ⟨gc,0,none⟩) rows.length cc) (.slice (some ⟨g,0,none⟩) k c):=(HG4.out.block p HBk3.out.lt hgp).trans HBk3.out
 have hF4:FreeR w4 base (.slice (some ⟨g,0,none⟩) k c) l2:=Kd.R_grown2 HF3.out rfl HG4.out (fun x hx=>by
  injection hx with hx
  subst hx
  rw [own_some]
  intro e
  exact hgg (Option.some.inj e))
 have hrow:=HO4.out
 rw [Int.toNat_natCast] at hrow
 have s1:=HB1.out.size
 have s2:=HK2.out.1
 have s3:=HBW.out.size
 refine ⟨rfl,l2,hBk4,hrow,hF4,HFIN.out.1,HFIN.out.2,?_,?_⟩
 ·intro x hx hxp hxg hxc
  rw [own_some] at hxc
  exact (HG4.out.block x (by omega) hxc).trans ((HBW.out.block x (by omega)).trans ((HK2.out.2 x (by omega) hxp (by simpa using hxg)).trans (HB1.out.block x hx)))
 ·have hbw:base<=w.heap.size:=by have:=HBk.out.lt;have:=HBP.out;omega
  exact (((HB1.out.mono hbw).trans HBel2.out).trans (HBW.out.mono (by omega))).trans HB4.out
set_option maxHeartbeats 4000000 in
set_option maxRecDepth 100000 in
theorem put_full {w:World} {p:Nat} {size room:Int} {A A':Option Addr} {n n' c c':Nat} (lf:Bool) (A1 A2 A5 A9:Option Addr) (n1 n2 n5 n9 c1 c2 c5 c9:Nat) (x3 x4 x6 x7 x8:Int)
 (h:ABlk w p size room (.slice A n c) (.slice A' n' c')) (hs:size≠0) (hr:room=(n:Int)-(n':Int)) (hr0:0<=room) (hr1:room<=4194304) (hn:n<=4194304) (hn':n'<=4194304):
 Calls Tryd.prog 74 #[.pointer (some ⟨p,0,none⟩),.agg #[.bool lf,.slice A1 n1 c1,.slice A2 n2 c2,.int .i64 x3,.int .i64 x4,.slice A5 n5 c5,.int .i64 x6,.int .i64 x7,.int .i64 x8,.slice A9 n9 c9]] w
  fun e w'=>e = .returned (.tuple #[.int .i64 0,.int .i64 4])/\Below w.heap.size w w':=by
 have HBk:=z_ h
 have HS:=z_ hs
 have HRL:=z_ (And.intro hr0 (And.intro hr1 (And.intro hn hn')))
 obtain ⟨u,hu⟩ : ∃u,u=room-((n:Int)-(n':Int)):=⟨_,rfl⟩
 have hu0:(u==0)=true:=by simp;omega
 have HU:=z_ hu
 clear h hs hr hr0 hr1 hu hn hn'
 go_enter Tryd.func74,Tryd.ntmps74
 go_wp2_with fail
 refine (room_calls (A:=A) (n:=n) (c:=c) (HBk.out.below (below_alloc (Below.refl _ _) _)) HS.out (by have:=HRL.out;omega) (by have:=HRL.out;omega) (by have:=HRL.out;omega) (by have:=HRL.out;omega)).mono ?_
 rw [<-HU.out]
 rintro e w' ⟨rfl,⟨m,rfl⟩⟩
 have HB1:=z_ (show Below w.heap.size w ((w.alloc (.cells #[.bool lf,.slice A1 n1 c1,.slice A2 n2 c2,.int .i64 x3,.int .i64 x4,.slice A5 n5 c5,.int .i64 x6,.int .i64 x7,.int .i64 x8,.slice A9 n9 c9] 39)).drewN m) from pw_below_drewN (below_alloc (Below.refl _ _) _) _)
 go_wp2_with fail
 go_ret2
 exact ⟨rfl,HB1.out⟩
abbrev Cs:=List (Option Nd)
def usedN:Cs->Nat
 | []=>0
 | none :: r=>usedN r
 | some _ :: r=>usedN r+1
def lowN:Cs->Nat
 | []=>0
 | none :: _=>0
 | some _ :: r=>lowN r+1
def putC (cs:Cs) (n:Nd):Cs:=if lowN cs<cs.length then cs.set (lowN cs) (some n) else cs++[some n]
theorem usedN_le : ∀cs:Cs,usedN cs<=cs.length
 | []=>Nat.le_refl _
 | none :: r=>by have:=usedN_le r;simp only [usedN,List.length_cons];omega
 | some _ :: r=>by have:=usedN_le r;simp only [usedN,List.length_cons];omega
theorem usedN_append : ∀(cs:Cs) (n:Nd),usedN (cs++[some n])=usedN cs+1
 | [],n=>rfl
 | none :: r,n=>by simp only [usedN,List.cons_append];exact usedN_append r n
 | some _ :: r,n=>by simp only [usedN,List.cons_append];rw [usedN_append r n]
theorem usedN_set : ∀(cs:Cs) (i:Nat) (n:Nd),cs[i]? = some none->usedN (cs.set i (some n))=usedN cs+1
 | [],i,n,h=>by simp at h
 | o :: r,0,n,h=>by
   obtain rfl:o=none:=by simpa using h
   rfl
 | none :: r,i+1,n,h=>by
   simp only [List.set_cons_succ,usedN]
   exact usedN_set r i n (by simpa using h)
 | some _ :: r,i+1,n,h=>by
   simp only [List.set_cons_succ,usedN]
   rw [usedN_set r i n (by simpa using h)]
theorem usedN_clear : ∀(cs:Cs) (i:Nat) (n:Nd),cs[i]? = some (some n)->usedN (cs.set i none)+1=usedN cs
 | [],i,n,h=>by simp at h
 | o :: r,0,n,h=>by
   obtain rfl:o=some n:=by simpa using h
   rfl
 | none :: r,i+1,n,h=>by
   simp only [List.set_cons_succ,usedN]
   exact usedN_clear r i n (by simpa using h)
 | some _ :: r,i+1,n,h=>by
   simp only [List.set_cons_succ,usedN]
   rw [usedN_clear r i n (by simpa using h)]
theorem lowN_le : ∀cs:Cs,lowN cs<=cs.length
 | []=>Nat.le_refl _
 | none :: r=>Nat.zero_le _
 | some _ :: r=>by have:=lowN_le r;simp only [lowN,List.length_cons];omega
theorem lowN_none : ∀cs:Cs,lowN cs<cs.length->cs[lowN cs]? = some none
 | [],h=>by simp at h
 | none :: r,_=>rfl
 | some _ :: r,h=>by
   simp only [lowN,List.length_cons] at h
   simp only [lowN,List.getElem?_cons_succ]
   exact lowN_none r (by omega)
theorem lowN_min : ∀(cs:Cs) (i:Nat),cs[i]? = some none->lowN cs<=i
 | [],i,h=>by simp at h
 | none :: r,i,_=>Nat.zero_le _
 | some _ :: r,0,h=>by simp at h
 | some _ :: r,i+1,h=>by
   simp only [lowN]
   have:=lowN_min r i (by simpa using h)
   omega
theorem putC_length (cs:Cs) (n:Nd):(putC cs n).length=if lowN cs<cs.length then cs.length else cs.length+1:=by
 unfold putC
 split
 ·rw [List.length_set]
 ·simp
theorem putC_used (cs:Cs) (n:Nd):usedN (putC cs n)=usedN cs+1:=by
 unfold putC
 split
 ·rename_i h
  exact usedN_set cs _ n (lowN_none cs h)
 ·exact usedN_append cs n
structure FreeOk (cs:Cs) (fr:List Int):Prop where
 len:fr.length+usedN cs=cs.length
 dup:fr.Nodup
 mem : ∀x:Int,x∈fr↔∃i:Nat,x=(i:Int)/\cs[i]? = some none
theorem FreeOk.nil:FreeOk [] []:=⟨rfl,List.nodup_nil,fun x=>⟨fun h=>by simp at h,fun ⟨i,_,h⟩=>by simp at h⟩⟩
theorem FreeOk.pop {cs:Cs} {fr l':List Int} (h:FreeOk cs fr) (hh:HeapN fr.length fr) (h0:0<fr.length):gn fr 0=(lowN cs:Int)/\lowN cs<cs.length:=by
 have hm:gn fr 0∈fr:=by
  rw [gn_lt h0]
  exact List.getElem_mem h0
 obtain ⟨i,hi,hn⟩:=(h.mem _).1 hm
 have h1:=lowN_min cs i hn
 have hlt:i<cs.length:=(List.getElem?_eq_some_iff.1 hn).1
 have h2:=lowN_none cs (by omega)
 have h3:((lowN cs:Nat):Int)∈fr:=(h.mem _).2 ⟨_,rfl,h2⟩
 obtain ⟨k,hk,he⟩:=List.getElem_of_mem h3
 have h4:=hh.min k hk
 rw [gn_lt hk,he] at h4
 exact ⟨by omega,by omega⟩
theorem FreeOk.put {cs:Cs} {fr l':List Int} (h:FreeOk cs fr) (i:Nat) (n:Nd) (hi:cs[i]? = some none) (hp:(l'++[(i:Int)]).Perm fr):FreeOk (cs.set i (some n)) l':=by
 have hlt:i<cs.length:=(List.getElem?_eq_some_iff.1 hi).1
 have hl:=hp.length_eq
 rw [List.length_append,List.length_singleton] at hl
 have hd:(l'++[(i:Int)]).Nodup:=hp.nodup_iff.2 h.dup
 rw [List.nodup_append] at hd
 refine ⟨?_,hd.1,fun x=>?_⟩
 ·have:=h.len
  rw [usedN_set cs i n hi,List.length_set]
  omega
 ·have hx:x∈l'++[(i:Int)]↔x∈fr:=hp.mem_iff
  have hf:=h.mem x
  constructor
  ·intro hm
   obtain ⟨k,hk,hn⟩:=hf.1 (hx.1 (List.mem_append_left _ hm))
   have hne:k≠i:=by
    rintro rfl
    exact hd.2.2 x hm (k:Int) (by simp) hk
   exact ⟨k,hk,by rw [List.getElem?_set_ne (Ne.symm hne)];exact hn⟩
  ·rintro ⟨k,hk,hn⟩
   have hne:k≠i:=by
    rintro rfl
    rw [List.getElem?_set_self hlt] at hn
    cases hn
   rw [List.getElem?_set_ne (Ne.symm hne)] at hn
   rcases List.mem_append.1 (hx.2 (hf.2 ⟨k,hk,hn⟩)) with hm|hm
   ·exact hm
   ·exfalso
    have:x=(i:Int):=by simpa using hm
    omega
theorem FreeOk.grow {cs:Cs} (h:FreeOk cs []) (n:Nd):lowN cs=cs.length/\FreeOk (cs++[some n]) []:=by
 have hn : ∀k:Nat,cs[k]? ≠ some none:=fun k hk=>by
  have:=(h.mem (k:Int)).2 ⟨k,rfl,hk⟩
  simp at this
 have h1:lowN cs=cs.length:=by
  rcases Nat.lt_or_ge (lowN cs) cs.length with h2|h2
  ·exact absurd (lowN_none cs h2) (hn _)
  ·have:=lowN_le cs
   omega
 refine ⟨h1,⟨?_,List.nodup_nil,fun x=>⟨fun hx=>by simp at hx,?_⟩⟩⟩
 ·have:=h.len
  rw [usedN_append,List.length_append,List.length_singleton]
  simp only [List.length_nil] at this ⊢
  omega
 ·rintro ⟨k,_,hk⟩
  exfalso
  rcases Nat.lt_or_ge k cs.length with h2|h2
  ·rw [List.getElem?_append_left h2] at hk
   exact hn k hk
  ·rw [List.getElem?_append_right h2] at hk
   rcases Nat.eq_zero_or_pos (k-cs.length) with h3|h3
   ·rw [h3] at hk
    simp at hk
   ·rw [List.getElem?_eq_none (by simp;omega)] at hk
    cases hk
theorem heap_some_lt {w:World} {k:Nat} {o:Obj} (h:w.heap[k]? = some o):k<w.heap.size:=(Array.getElem?_eq_some_iff.1 h).1
abbrev BX (w:World) (X:Nat->Prop) (v:Value) (l:List Int):Prop:=Kd.V (Kd.int .u8) 5 w 0 X v l
def RowOf (w:World) (X:Nat->Prop) (n:Nd) (r:List Value):Prop:=∃(A1 A2 A5 A9:Option Addr) (c1 c2 c5 c9:Nat),r = [.bool n.f0,.slice A1 n.f1.length c1,.slice A2 n.f2.length c2,.int .i64 n.f3,.int .i64 n.f4,.slice A5 n.f5.length c5,.int .i64 n.f6,.int .i64 n.f7,.int .i64 n.f8,.slice A9 n.f9.length c9]/\
 BX w X (.slice A1 n.f1.length c1) n.f1/\BX w X (.slice A2 n.f2.length c2) n.f2/\BX w X (.slice A5 n.f5.length c5) n.f5/\BX w X (.slice A9 n.f9.length c9) n.f9
theorem RowOf.step {w w1:World} {X X1:Nat->Prop} {n:Nd} {r:List Value} (h:RowOf w X n r) (hk : ∀k,X k->k<w.heap.size->w1.heap[k]? = w.heap[k]?) (hX : ∀k,X k->X1 k):RowOf w1 X1 n r:=by
 obtain ⟨A1,A2,A5,A9,c1,c2,c5,c9,e,h1,h2,h5,h9⟩:=h
 exact ⟨A1,A2,A5,A9,c1,c2,c5,c9,e,Kd.V_mono (Kd.V_step h1 hk) hX,Kd.V_mono (Kd.V_step h2 hk) hX,Kd.V_mono (Kd.V_step h5 hk) hX,Kd.V_mono (Kd.V_step h9 hk) hX⟩
def CellOk (w:World) (X:Nat->Prop):Option Nd->List Value->Prop
 | none,r=>∃t,r = .bool false :: t
 | some n,r=>∃t,r = .bool true :: t/\RowOf w X n t
theorem CellOk.step {w w1:World} {X X1:Nat->Prop} {o:Option Nd} {r:List Value} (h:CellOk w X o r) (hk : ∀k,X k->k<w.heap.size->w1.heap[k]? = w.heap[k]?) (hX : ∀k,X k->X1 k):CellOk w1 X1 o r:=by
 cases o with
 | none=>exact h
 | some n=>
   obtain ⟨t,e,hr⟩:=h
   exact ⟨t,e,hr.step hk hX⟩
def OwnS (p:Nat) (vc vf:Value) (k:Nat):Prop:=k=p\/some k=vc.ownBlock\/some k=vf.ownBlock
def Grew (w:World) (A B:Nat->Prop):Prop:=∀k,B k->A k\/w.heap.size<=k
theorem Grew.refl (w:World) (A:Nat->Prop):Grew w A A:=fun _ h=>.inl h
theorem Grew.trans {w w1:World} {A B C:Nat->Prop} (h:Grew w A B) (k:Grew w1 B C) (hs:w.heap.size<=w1.heap.size):Grew w A C:=fun x hx=>(k x hx).elim (h x) (fun h1=>.inr (Nat.le_trans hs h1))
structure ArenaV (w:World) (base p:Nat) (size room:Int) (vc vf:Value) (X:Nat->Prop) (rows:List (List Value)) (fr:List Int) (cs:Cs):Prop where
 blk:ABlk w p size room vc vf
 cells:CellsR w base vc rows
 free:FreeR w base vf fr
 heap:HeapN fr.length fr
 ok:FreeOk cs fr
 len:rows.length=cs.length
 row : ∀(i:Nat) (o:Option Nd) (r:List Value),cs[i]? = some o->rows[i]? = some r->CellOk w X o r
 sep : ∀k,X k->k<w.heap.size/\¬OwnS p vc vf k
structure ArenaM (w:World) (base p:Nat) (size room:Int) (vc vf:Value) (X:Nat->Prop) (cs:Cs):Prop where
 mem : ∃rows fr,ArenaV w base p size room vc vf X rows fr cs
 hb:base<=p
 hs:1<=size/\size<=32
 hr:1<=room/\room<=4194304
 hl:(cs.length:Int)<=room
theorem ArenaV.own_lt {w:World} {base p:Nat} {size room:Int} {vc vf:Value} {X:Nat->Prop} {rows:List (List Value)} {fr:List Int} {cs:Cs} (h:ArenaV w base p size room vc vf X rows fr cs) (k:Nat) (hk:OwnS p vc vf k):k<w.heap.size:=by
 rcases hk with rfl|hk|hk
 ·exact h.blk.lt
 ·exact YtdeneoknjeegbaaDoorW.PrintWords.own_lt (Kd.R_own h.cells).choose_spec k hk.symm
 ·exact YtdeneoknjeegbaaDoorW.PrintWords.own_lt (Kd.R_own h.free).choose_spec k hk.symm
theorem ArenaV.step {w w1:World} {base p:Nat} {size room:Int} {vc vf:Value} {X X1:Nat->Prop} {rows:List (List Value)} {fr:List Int} {cs:Cs} (h:ArenaV w base p size room vc vf X rows fr cs) (hs:w.heap.size<=w1.heap.size) (hk : ∀k,k<w.heap.size->OwnS p vc vf k\/X k->w1.heap[k]? = w.heap[k]?) (hX : ∀k,X k->X1 k) (hX1 : ∀k,X1 k->k<w1.heap.size/\¬OwnS p vc vf k):ArenaV w1 base p size room vc vf X1 rows fr cs:=by
 refine ⟨(hk p h.blk.lt (.inl (.inl rfl))).trans h.blk,?_,?_,h.heap,h.ok,h.len,fun i o r hi hr=>(h.row i o r hi hr).step (fun k hx hl=>hk k hl (.inr hx)) hX,hX1⟩
 ·exact Kd.R_mono (Kd.R_step (Kd.R_reok (ok:=fun k=>some k=vc.ownBlock) rfl h.cells (fun k e=>e.symm)) (fun k hx hl=>hk k hl (.inl (.inr (.inl hx))))) (fun _ _=>trivial)
 ·exact Kd.R_mono (Kd.R_step (Kd.R_reok (ok:=fun k=>some k=vf.ownBlock) rfl h.free (fun k e=>e.symm)) (fun k hx hl=>hk k hl (.inl (.inr (.inr hx))))) (fun _ _=>trivial)
theorem ArenaM.step {w w1:World} {base p:Nat} {size room:Int} {vc vf:Value} {X X1:Nat->Prop} {cs:Cs} (h:ArenaM w base p size room vc vf X cs) (hs:w.heap.size<=w1.heap.size) (hk : ∀k,k<w.heap.size->OwnS p vc vf k\/X k->w1.heap[k]? = w.heap[k]?) (hX : ∀k,X k->X1 k) (hX1 : ∀k,X1 k->k<w1.heap.size/\¬OwnS p vc vf k):ArenaM w1 base p size room vc vf X1 cs:=by
 obtain ⟨rows,fr,hv⟩:=h.mem
 exact ⟨⟨rows,fr,hv.step hs hk hX hX1⟩,h.hb,h.hs,h.hr,h.hl⟩
theorem ArenaM.below {w w1:World} {base p:Nat} {size room:Int} {vc vf:Value} {X:Nat->Prop} {cs:Cs} (h:ArenaM w base p size room vc vf X cs) (hb:Below w.heap.size w w1):ArenaM w1 base p size room vc vf X cs:=by
 obtain ⟨rows,fr,hv⟩:=h.mem
 exact h.step hb.size (fun k hk _=>hb.block k hk) (fun _ h=>h) (fun k hx=>⟨Nat.lt_of_lt_of_le (hv.sep k hx).1 hb.size,(hv.sep k hx).2⟩)
def ArenaP (w w':World) (base p:Nat) (size room:Int) (vc vf:Value) (X:Nat->Prop) (cs:Cs):Prop:=
 ∃vc' vf' X',ArenaM w' base p size room vc' vf' X' cs/\Grew w (OwnS p vc vf) (OwnS p vc' vf')/\Grew w X X'/\Kept w w' (OwnS p vc vf)/\Below base w w'
theorem ArenaP.of_below {w w':World} {base p:Nat} {size room:Int} {vc vf:Value} {X:Nat->Prop} {cs:Cs} (h:ArenaM w base p size room vc vf X cs) (hb:Below w.heap.size w w'):ArenaP w w' base p size room vc vf X cs:=by
 obtain ⟨rows,fr,hv⟩:=h.mem
 exact ⟨vc,vf,X,h.below hb,Grew.refl _ _,Grew.refl _ _,Kept.of_below hb _,hb.mono (by have:=hv.blk.lt;have:=h.hb;omega)⟩
set_option maxRecDepth 100000 in
theorem put_calls {w:World} {base p:Nat} {size room:Int} {vc vf:Value} {X:Nat->Prop} {cs:Cs} (h:ArenaM w base p size room vc vf X cs) (n:Nd) (A1 A2 A5 A9:Option Addr) (c1 c2 c5 c9:Nat)
 (b1:BX w X (.slice A1 n.f1.length c1) n.f1) (b2:BX w X (.slice A2 n.f2.length c2) n.f2) (b5:BX w X (.slice A5 n.f5.length c5) n.f5) (b9:BX w X (.slice A9 n.f9.length c9) n.f9):
 Calls Tryd.prog 74 #[.pointer (some ⟨p,0,none⟩),.agg #[.bool n.f0,.slice A1 n.f1.length c1,.slice A2 n.f2.length c2,.int .i64 n.f3,.int .i64 n.f4,.slice A5 n.f5.length c5,.int .i64 n.f6,.int .i64 n.f7,.int .i64 n.f8,.slice A9 n.f9.length c9]] w
  fun e w'=>(if (usedN cs:Int)=room then e = .returned (.tuple #[.int .i64 0,.int .i64 4])/\ArenaP w w' base p size room vc vf X cs else e = .returned (.tuple #[.int .i64 (lowN cs:Int),.int .i64 0])/\ArenaP w w' base p size room vc vf X (putC cs n)):=by
 obtain ⟨rows,fr,hv⟩:=h.mem
 obtain ⟨A,c,rfl⟩:=Kd.R_slice hv.cells
 obtain ⟨A',c',rfl⟩:=Kd.R_slice hv.free
 have hs:=h.hs
 have hr:=h.hr
 have hl:=h.hl
 have hlen:=hv.len
 have hok:=hv.ok.len
 have hbw:base<=w.heap.size:=by have:=hv.blk.lt;have:=h.hb;omega
 have hrow:RowOf w X n [.bool n.f0,.slice A1 n.f1.length c1,.slice A2 n.f2.length c2,.int .i64 n.f3,.int .i64 n.f4,.slice A5 n.f5.length c5,.int .i64 n.f6,.int .i64 n.f7,.int .i64 n.f8,.slice A9 n.f9.length c9]:=⟨A1,A2,A5,A9,c1,c2,c5,c9,rfl,b1,b2,b5,b9⟩
 by_cases hfull:(usedN cs:Int)=room
 ·refine (put_full n.f0 A1 A2 A5 A9 _ _ _ _ c1 c2 c5 c9 n.f3 n.f4 n.f6 n.f7 n.f8 hv.blk (by omega) (by omega) (by omega) (by omega) (by omega) (by omega)).mono ?_
  rintro e w' ⟨rfl,hb⟩
  rw [if_pos hfull]
  exact ⟨rfl,ArenaP.of_below h hb⟩
 ·cases hfr:fr with
  | nil=>
    subst hfr
    have hg:=hv.ok.grow n
    refine (put_grow (base:=base) n.f0 A1 A2 A5 A9 _ _ _ _ c1 c2 c5 c9 n.f3 n.f4 n.f6 n.f7 n.f8 hv.blk hv.cells (by omega) h.hb (by simp only [List.length_nil] at hok;omega) hr.2).mono ?_
    rintro e w' ⟨rfl,v1,hb1,hR1,hat,hk,hbel⟩
    rw [if_neg hfull]
    have hT:Kept w w' (OwnS p (.slice A rows.length c) (.slice A' 0 c')):=⟨hk.1,fun x hx hn=>hk.2 x hx (fun e=>hn (.inl e)) (fun e=>hn (.inr (.inl e)))⟩
    have hgr:Grew w (OwnS p (.slice A rows.length c) (.slice A' 0 c')) (OwnS p v1 (.slice A' 0 c')):=fun x hx=>by
     rcases hx with hx|hx|hx
     ·exact .inl (.inl hx)
     ·rcases hat with h1|⟨b,h1,h2⟩
      ·exact .inl (.inr (.inl (hx.trans h1)))
      ·rw [h1] at hx
       obtain rfl:=Option.some.inj hx
       exact .inr h2
     ·exact .inl (.inr (.inr hx))
    have hXs : ∀k,X k->k<w.heap.size->w'.heap[k]? = w.heap[k]? := fun k hx hl=>hT.2 k hl (hv.sep k hx).2
    refine ⟨by rw [hg.1,hlen],v1,_,X,⟨?_,h.hb,hs,hr,?_⟩,hgr,Grew.refl _ _,hT,hbel hbw⟩
    ·refine ⟨_,[],hb1,hR1,?_,fun k _ hk=>by simp at hk,by unfold putC;rw [if_neg (by omega)];exact hg.2,by unfold putC;rw [if_neg (by omega)];simp [hlen],?_,fun k hx=>⟨Nat.lt_of_lt_of_le (hv.sep k hx).1 hT.1,fun ho=>(hgr k ho).elim (hv.sep k hx).2 (fun h1=>by have:=(hv.sep k hx).1;omega)⟩⟩
     ·refine Kd.R_mono (Kd.R_step (Kd.R_bound (Kd.R_types hv.free hv.blk (by decide))) (fun k hk1 hlt=>?_)) (fun _ _=>trivial)
      obtain ⟨⟨_,hkp⟩,_,_,q,hq,cells,hc⟩:=hk1
      have:q=3:=by
       rcases List.mem_cons.1 hq with h|h
       ·exact h
       ·cases h
      subst this
      exact hk.2 k hlt hkp (Kd.R_ne hv.cells hc (by decide))
     ·intro i o r hi hro
      unfold putC at hi
      rw [if_neg (by omega)] at hi
      rcases Nat.lt_or_ge i cs.length with h2|h2
      ·rw [List.getElem?_append_left h2] at hi
       rw [List.getElem?_append_left (by omega)] at hro
       exact (hv.row i o r hi hro).step hXs (fun _ h=>h)
      ·rw [List.getElem?_append_right h2] at hi
       rw [List.getElem?_append_right (by omega)] at hro
       have h3:i-cs.length=0:=by
        rcases Nat.eq_zero_or_pos (i-cs.length) with h3|h3
        ·exact h3
        ·rw [List.getElem?_eq_none (by simp;omega)] at hi
         cases hi
       rw [h3] at hi
       rw [hlen,h3] at hro
       obtain rfl:some n=o:=by simpa using hi
       obtain rfl:=Option.some.inj hro
       exact ⟨_,rfl,hrow.step hXs (fun _ h=>h)⟩
    ·rw [putC_length,if_neg (by omega)]
     simp only [List.length_nil] at hok
     omega
  | cons x rest=>
    have h0:0<fr.length:=by rw [hfr];simp
    obtain ⟨hlow,hlt⟩:=hv.ok.pop (l':=[]) hv.heap h0
    obtain ⟨g,rfl⟩ : ∃g,A'=some ⟨g,0,none⟩:=by
     obtain ⟨ad,cc,e,hcl,hcK,hcc⟩:=Kd.C_get (FreeR.readsC hv.free) (0:Int) 0 (by omega) (by omega)
     subst e
     obtain ⟨g,rfl⟩:=Kd.R_head hv.free
     exact ⟨g,rfl⟩
    obtain ⟨k,hk⟩ : ∃k,fr.length=k+1:=⟨fr.length-1,by omega⟩
    have hblk:=hv.blk
    have hfree:=hv.free
    have hheap:=hv.heap
    rw [hk] at hblk hfree hheap
    refine (put_pop (base:=base) n.f0 A1 A2 A5 A9 _ _ _ _ c1 c2 c5 c9 n.f3 n.f4 n.f6 n.f7 n.f8 hblk hv.cells hfree hheap (lowN cs) hlow (by omega) (by omega) h.hb (by omega) hr.1 hr.2 (by omega) (by omega)).mono ?_
    rintro e w' ⟨rfl,l',hb1,hR1,hF1,hH1,hP1,hkeep,hbel⟩
    rw [if_neg hfull]
    have hnone:=lowN_none cs hlt
    have hT:Kept w w' (OwnS p (.slice A rows.length c) (.slice (some ⟨g,0,none⟩) fr.length c')):=⟨hbel.size,fun x hx hn=>hkeep x hx (fun e=>hn (.inl e)) (fun e=>hn (.inr (.inr (by rw [own_some,e])))) (fun e=>hn (.inr (.inl e)))⟩
    have hgr:Grew w (OwnS p (.slice A rows.length c) (.slice (some ⟨g,0,none⟩) fr.length c')) (OwnS p (.slice A rows.length c) (.slice (some ⟨g,0,none⟩) k c')):=fun x hx=>by
     rcases hx with hx|hx|hx
     ·exact .inl (.inl hx)
     ·exact .inl (.inr (.inl hx))
     ·exact .inl (.inr (.inr (by rw [own_some] at hx ⊢;exact hx)))
    have hXs : ∀k,X k->k<w.heap.size->w'.heap[k]? = w.heap[k]? := fun k hx hl=>hT.2 k hl (hv.sep k hx).2
    refine ⟨rfl,_,_,X,⟨⟨_,l',hb1,hR1,hF1,hH1,?_,?_,?_,fun k hx=>⟨Nat.lt_of_lt_of_le (hv.sep k hx).1 hT.1,fun ho=>(hgr k ho).elim (hv.sep k hx).2 (fun h1=>by have:=(hv.sep k hx).1;omega)⟩⟩,h.hb,hs,hr,?_⟩,hgr,Grew.refl _ _,hT,hbel⟩
    ·unfold putC
     rw [if_pos hlt]
     exact hv.ok.put (lowN cs) n hnone hP1
    ·unfold putC
     rw [if_pos hlt,List.length_set,List.length_set,hlen]
    ·intro i o r hi hro
     unfold putC at hi
     rw [if_pos hlt] at hi
     by_cases hie:i=lowN cs
     ·subst hie
      rw [List.getElem?_set_self hlt] at hi
      rw [List.getElem?_set_self (by omega)] at hro
      obtain rfl:=Option.some.inj hi
      obtain rfl:=Option.some.inj hro
      exact ⟨_,rfl,hrow.step hXs (fun _ h=>h)⟩
     ·rw [List.getElem?_set_ne (Ne.symm hie)] at hi
      rw [List.getElem?_set_ne (Ne.symm hie)] at hro
      exact (hv.row i o r hi hro).step hXs (fun _ h=>h)
    ·rw [putC_length,if_pos hlt]
     exact hl
end Go.Proofs.YtdeneoknjeegbaaDoor.P
end
