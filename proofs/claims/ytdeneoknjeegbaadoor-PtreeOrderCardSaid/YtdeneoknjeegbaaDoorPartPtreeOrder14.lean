/- Lemmas of this claim, part 14. -/
import Derived.Test.YtdeneoknjeegbaaDoorPartPtreeOrder13
import Derived.Test.YtdeneoknjeegbaaDoorPartPtreeOrder2
import Derived.ChangeArms
import Derived.SizedLaws
import Derived.WideShapes
import Derived.ChangeSlices
set_option linter.unusedVariables false
set_option linter.unusedSimpArgs false
section
namespace Go.Proofs.YtdeneoknjeegbaaDoor.P
open Go Go.RowKit Go.Shelf YtdeneoknjeegbaaDoor.Pure YtdeneoknjeegbaaDoorW.PrintWords YtdeneoknjeegbaaDoorW.PrintLast YtdeneoknjeegbaaDoorW.PrintMore
structure OrdM (w3:World) (b0 p ge:Nat) (Sp O0 X0:Nat->Prop) (n:Nat) (root:Int) (t:Option PT) (cs:Cs) (vc vf vl:Value) (X:Nat->Prop) (la:List PutS) (W:World):Prop where
 m:ArenaM W p p 8 65536 vc vf X cs
 x0 : ∀k,X0 k->X k
 sp : ∀k,Sp k->¬X k/\¬OwnS p vc vf k
 og : ∀k,OwnS p vc vf k->O0 k\/w3.heap.size<=k
 tree:TreeIn 8 cs root t
 used:usedN cs<=40*n
 rt:t=none->root = -1
 rows:Kd.N k59 59 W b0 (fun k=>X0 k\/(b0<=k/\¬OwnS p vc vf k/\¬Sp k)) vl la
 rowx : ∀k,some k=vl.ownBlock->¬X k
 kept:Kept w3 W O0
 low:Below p w3 W
 err:W.heap[ge]? = some (.cells #[.int .i64 0] 24 (0,0))
section
variable {w3 W W':World} {b0 p ge n:Nat} {Sp O0 X0 X X':Nat->Prop} {root i:Int} {t t':Option PT} {cs cs':Cs} {vc vf vl vc' vf' v1:Value} {la la':List PutS}
theorem OrdM.touch (h:OrdM w3 b0 p ge Sp O0 X0 n root t cs vc vf vl X la W) (Q:Nat->Prop) (hs:W.heap.size<=W'.heap.size) (hk : ∀k,k<W.heap.size->¬Q k->W'.heap[k]? = W.heap[k]?) (hQ : ∀k,Q k->Sp k/\(O0 k\/w3.heap.size<=k)) (hx : ∀k,X0 k->¬Sp k) (hr : ∀k,Sp k->some k≠vl.ownBlock) (hl:Below p w3 W') (he:W'.heap[ge]? = some (.cells #[.int .i64 0] 24 (0,0))):OrdM w3 b0 p ge Sp O0 X0 n root t cs vc vf vl X la W' where
 m:=h.m.step hs (fun k hk' hx'=>hk k hk' (fun hq=>by
  have:=h.sp k (hQ k hq).1
  rcases hx' with h1|h1
  ·exact this.2 h1
  ·exact this.1 h1)) (fun _ h=>h) (fun k hk'=>⟨Nat.lt_of_lt_of_le (h.m.sep k hk').1 hs,(h.m.sep k hk').2⟩)
 x0:=h.x0
 sp:=h.sp
 og:=h.og
 tree:=h.tree
 used:=h.used
 rt:=h.rt
 rows:=Kd.N_step h.rows (fun k hk' hl=>hk k hl (fun hq=>by
  rcases hk' with h1|h1
  ·exact hx k h1 (hQ k hq).1
  ·exact h1.2.2 (hQ k hq).1))
 rowx:=h.rowx
 kept:=h.kept.then_ (S2:=Q) ⟨hs,hk⟩ (fun k hq=>(hQ k hq).2)
 low:=hl
 err:=he
theorem OrdM.below (h:OrdM w3 b0 p ge Sp O0 X0 n root t cs vc vf vl X la W) (hb:Below W.heap.size W W') (hp:p<=W.heap.size):OrdM w3 b0 p ge Sp O0 X0 n root t cs vc vf vl X la W' where
 m:=h.m.below hb
 x0:=h.x0
 sp:=h.sp
 og:=h.og
 tree:=h.tree
 used:=h.used
 rt:=h.rt
 rows:=Kd.N_below h.rows hb
 rowx:=h.rowx
 kept:=h.kept.below hb
 low:=h.low.trans (hb.mono hp)
 err:=blk_below h.err hb
theorem OrdM.ins (h:OrdM w3 b0 p ge Sp O0 X0 n root t cs vc vf vl X la W) (hsp : ∀k,Sp k->k<W.heap.size) (hge:Sp ge) (k1:TreeIn 8 cs' i t') (k3:usedN cs'<=40*(n+1)) (k4:t'=none->i = -1) (h3:w3.heap.size<=W.heap.size)
 (m1:ArenaM W' p p 8 65536 vc' vf' X' cs') (m2 : ∀k,X k->X' k) (m3:Grew W X X') (m4:Grew W (OwnS p vc vf) (OwnS p vc' vf')) (m5:Kept W W' (OwnS p vc vf)) (m6:Below p W W'):OrdM w3 b0 p ge Sp O0 X0 (n+1) i t' cs' vc' vf' vl X' la W' where
 m:=m1
 x0:=fun k hk=>m2 k (h.x0 k hk)
 sp:=fun k hk=>by
  have h1:=h.sp k hk
  have h2:=hsp k hk
  exact ⟨fun hx=>(m3 k hx).elim h1.1 (fun h=>by omega),fun ho=>(m4 k ho).elim h1.2 (fun h=>by omega)⟩
 og:=fun k ho=>(m4 k ho).elim (h.og k) (fun h=>.inr (by omega))
 tree:=k1
 used:=k3
 rt:=k4
 rows:=by
  have h1:=Kd.N_step (Kd.N_bound h.rows) (w1:=W') (fun k hk hl=>m5.2 k hl (by
   rcases hk.1 with h2|h2
   ·exact (h.m.sep k (h.x0 k h2)).2
   ·exact h2.2.1))
  refine Kd.N_mono h1 (fun k hk=>hk.1.imp (fun h=>h) (fun h2=>⟨h2.1,fun ho=>?_,h2.2.2⟩))
  rcases m4 k ho with h3|h3
  ·exact h2.2.1 h3
  ·have:=hk.2
   omega
 rowx:=fun k hk hx=>(m3 k hx).elim (h.rowx k hk) (fun h2=>by have:=Kd.N_lt h.rows k hk.symm;omega)
 kept:=h.kept.then_ m5 (fun k hk=>h.og k hk)
 low:=h.low.trans m6
 err:=(m5.2 ge (hsp ge hge) (h.sp ge hge).2).trans h.err
theorem OrdM.row (h:OrdM w3 b0 p ge Sp O0 X0 n root t cs vc vf vl X la W) (hb:w3.heap.size=b0) (hp:p<=b0) (hsp : ∀k,Sp k->k<b0) (hge:Sp ge) (hk:Kept W W' (fun k=>some k=vl.ownBlock)) (hl:Below b0 W W') (hN:Kd.N k59 59 W' b0 (fun k=>X0 k\/(b0<=k/\¬OwnS p vc vf k/\¬Sp k)) v1 la') (hat:v1.ownBlock=vl.ownBlock\/∃b,v1.ownBlock=some b/\W.heap.size<=b) (hx : ∀k,X0 k->k<b0):
 OrdM w3 b0 p ge Sp O0 X0 n root t cs vc vf v1 X la' W':=by
 have hown : ∀k,some k=vl.ownBlock->¬X k/\¬OwnS p vc vf k/\b0<=k:=fun k hk=>by
  have h1:=Kd.N_base h.rows k hk.symm
  obtain ⟨h0,_⟩:=h.rows
  refine ⟨h.rowx k hk,?_,h1⟩
  rcases h0 k hk.symm with h2|h2
  ·have:=hx k h2
   omega
  ·exact h2.2.1
 exact {
  m:=h.m.step hk.1 (fun k hk' ho=>hk.2 k hk' (fun he=>ho.elim (hown k he).2.1 (hown k he).1)) (fun _ h=>h) (fun k hk'=>⟨Nat.lt_of_lt_of_le (h.m.sep k hk').1 hk.1,(h.m.sep k hk').2⟩)
  x0:=h.x0
  sp:=h.sp
  og:=h.og
  tree:=h.tree
  used:=h.used
  rt:=h.rt
  rows:=hN
  rowx:=fun k hk' hx'=>by
   rcases hat with h1|⟨b,h1,h2⟩
   ·exact h.rowx k (hk'.trans h1) hx'
   ·obtain rfl:=Option.some.inj (hk'.trans h1)
    have:=(h.m.sep _ hx').1
    omega
  kept:=h.kept.then_ hk (fun k hk'=>.inr (by have:=(hown k hk').2.2;omega))
  low:=h.low.trans (hl.mono hp)
  err:=(hk.2 ge (blk_lt h.err) (fun he=>by have:=(hown ge he).2.2;have:=hsp ge hge;omega)).trans h.err }
end
theorem rows_of {P:Nat->List Value->Prop} : ∀n,(∀k,k<n->∃c,P k c)->∃rows:List (List Value),rows.length=n/\∀k,k<n->P k (rows.getD k [])
 | 0,_=>⟨[],rfl,fun k hk=>absurd hk (Nat.not_lt_zero k)⟩
 | n+1,h=>by
   obtain ⟨rows,h1,h2⟩:=rows_of n (fun k hk=>h k (by omega))
   obtain ⟨c,hc⟩:=h n (by omega)
   refine ⟨rows++[c],by rw [List.length_append,h1];rfl,fun k hk=>?_⟩
   rw [List.getD_eq_getElem?_getD]
   by_cases hn:k<n
   ·rw [List.getElem?_append_left (by omega),<-List.getD_eq_getElem?_getD]
    exact h2 k hn
   ·obtain rfl:k=n:=by omega
    rw [List.getElem?_append_right (by omega),h1,Nat.sub_self]
    exact hc
def PutRow (W:World) (ok:Nat->Prop) (A:Option Addr) (la:List PutS) (k:Nat) (c:List Value):Prop:=∃g B1 d1 B2 d2,A=some ⟨g,0,none⟩/\c = [.slice B1 (la.getD k z59).f0.length d1,.slice B2 (la.getD k z59).f1.length d2,.int .i64 (la.getD k z59).f2]/\
 (∀j u,c[j]? = some u->W.cell? ⟨g,k*3+j,none⟩=some u)/\(la.getD k z59).f0.length<=d1/\Kd.F (Kd.int .u8) W (fun k=>ok k/\k≠g) B1 (la.getD k z59).f0.length (la.getD k z59).f0/\(la.getD k z59).f1.length<=d2/\Kd.F (Kd.int .u8) W (fun k=>ok k/\k≠g) B2 (la.getD k z59).f1.length (la.getD k z59).f1
theorem puts_rows {W:World} {b0:Nat} {ok:Nat->Prop} {A:Option Addr} {c:Nat} {la:List PutS} (h:Kd.N k59 59 W b0 ok (.slice A la.length c) la):
 ∃rows:List (List Value),rows.length=la.length/\∀k,k<la.length->PutRow W ok A la k (rows.getD k []):=by
 refine rows_of (P:=PutRow W ok A la) la.length (fun k hk=>?_)
 obtain ⟨g,cap,he,_,_,_⟩:=Kd.N_form h (by omega)
 injection he with e1 e2 e3
 subst e1 e3
 obtain ⟨cs,hcl,hFK,hcc,hfr⟩:=Kd.N_elem h z59 (k:Int) (by omega) (by omega)
 rw [Int.toNat_natCast] at hFK hcc
 obtain ⟨B1,d1,B2,d2,rfl,l1,F1,l2,F2⟩:=k59_openF hFK
 exact ⟨_,g,B1,d1,B2,d2,rfl,rfl,hcc,l1,F1,l2,F2⟩
theorem backs_row (rows:List (List Value)) : ∀(n:Nat) (pre:List (Int×List Value)) (x:Int×List Value),pre++[x] <+: backs rows n->pre.length<n/\x=(((n-1-pre.length:Nat):Int),rows.getD (n-1-pre.length) [])
 | 0,pre,x,h=>by
   have:=h.length_le
   simp [backs] at this
 | n+1,[],x,h=>by
   obtain ⟨r,hr⟩:=h
   simp only [backs,List.nil_append,List.cons_append] at hr
   injection hr with h1 _
   exact ⟨by simp,by rw [h1];simp⟩
 | n+1,y :: pre,x,h=>by
   obtain ⟨r,hr⟩:=h
   simp only [backs,List.cons_append] at hr
   injection hr with _ h2
   obtain ⟨i1,i2⟩:=backs_row rows n pre x ⟨r,h2⟩
   refine ⟨by simp only [List.length_cons];omega,?_⟩
   rw [i2,List.length_cons,show n+1-1-(pre.length+1)=n-1-pre.length by omega]
theorem backs_len (rows:List (List Value)) : ∀n,(backs rows n).length=n
 | 0=>rfl
 | n+1=>by rw [backs,List.length_cons,backs_len rows n]
structure OrdJ (wL:World) (p ge gt:Nat) (Sp O0 X0:Nat->Prop) (la:List PutS) (one:Int) (t:Option PT) (j:Nat) (W:World):Prop where
 ex : ∃root u cs vc vf X,OrdM wL wL.heap.size p ge Sp O0 X0 (30+j) root u cs vc vf (.slice none 0 0) X [] W/\TreeIn 8 cs one t/\W.heap[gt]? = some (.cells #[.int .i64 root] 3 (0,0))/\(∀y,y∈leavesO u↔y∈(la.drop (la.length-j)).map lfP)
section
variable {wL W W':World} {p ge gt j:Nat} {Sp O0 X0:Nat->Prop} {la:List PutS} {one:Int} {t:Option PT}
theorem OrdJ.below (h:OrdJ wL p ge gt Sp O0 X0 la one t j W) (hb:Below W.heap.size W W'):OrdJ wL p ge gt Sp O0 X0 la one t j W':=by
 obtain ⟨root,u,cs,vc,vf,X,h1,h2,h3,h4⟩:=h.ex
 exact ⟨root,u,cs,vc,vf,X,h1.below hb (Nat.le_of_lt (blkA h1.m).lt),h2,blk_below h3 hb,h4⟩
theorem OrdJ.turn (h:OrdJ wL p ge gt Sp O0 X0 la one t j W) (hs:Sp (wL.heap.size+1)) (hx : ∀k,X0 k->¬Sp k) (hp:p<=wL.heap.size) (hge:ge<wL.heap.size) (hgt:gt<wL.heap.size) (o:Obj):OrdJ wL p ge gt Sp O0 X0 la one t j (W.putObj (wL.heap.size+1) o):=by
 obtain ⟨root,u,cs,vc,vf,X,h1,h2,h3,h4⟩:=h.ex
 have hf : ∀k,k≠wL.heap.size+1->(W.putObj (wL.heap.size+1) o).heap[k]? = W.heap[k]? := fun k hk=>World.putObj_heap_other hk
 refine ⟨root,u,cs,vc,vf,X,h1.touch (fun k=>k=wL.heap.size+1) (by rw [World.putObj_size];exact Nat.le_refl _) (fun k _ hk=>hf k hk) (fun k hk=>by subst hk;exact ⟨hs,.inr (by omega)⟩) hx (fun k _ he=>by simp [Value.ownBlock] at he) (h1.low.trans (putObj_below p W o (by omega))) ((hf ge (by omega)).trans h1.err),h2,(hf gt (by omega)).trans h3,h4⟩
end
end Go.Proofs.YtdeneoknjeegbaaDoor.P
end
section
namespace Go.Proofs.YtdeneoknjeegbaaDoor.P
open Go Go.RowKit Go.Shelf YtdeneoknjeegbaaDoor.Pure YtdeneoknjeegbaaDoorW.PrintWords YtdeneoknjeegbaaDoorW.PrintLast YtdeneoknjeegbaaDoorW.PrintMore
def ord29_T:Bool×List (List Nat×List Nat):=(true,[([],[]),([],[]),([1],[1]),([0,2],[0,2]),([3],[3]),([4],[4]),([],[]),([],[]),([6,7],[6,7]),([8],[8]),([9],[9]),([5,10],[5,10]),([11],[11])])
def ord29_B:List Nat:=[0,0,2,7,15,31,0,0,192,448,960,2047,4095]
theorem ord29_tab:rtab .any (opsOf Tryd.f6 29)=ord29_T:=by kernel_rfl
theorem ord29_bits:waitsOk ord29_T.2 ord29_B=true:=by kernel_rfl
def ord31_T:Bool×List (List Nat×List Nat):=(true,[([],[]),([0],[0]),([],[]),([2],[2]),([1,3],[1,3]),([4],[4]),([5],[5]),([5],[5]),([6,7,5,5],[5,6,7]),([5],[5]),([5],[5]),([9,10,8,5],[5,9,10]),([8,11,11,5],[5,8,11]),([5,12],[5,12]),([13,12],[13]),([14],[14]),([14],[14]),([14],[14]),([16,17,14,14],[14,16,17]),([15,18,18,14],[14,15,18]),([14,19],[14,19]),([20,19],[20]),([21,21],[21]),([21,22],[21,22]),([23,22,0,1,2,3,4,5,6,7,8,9,10,11,12,13,14,15,16,17,18,19,20,21,22,23],[23])])
def ord31_B:List Nat:=[0,1,0,4,15,31,63,63,255,63,63,2047,4095,8191,16383,32767,32767,32767,229375,524287,1048575,2097151,4194303,8388607,16777215]
theorem ord31_tab:rtab .any (opsOf Tryd.f6 31)=ord31_T:=by kernel_rfl
theorem ord31_bits:waitsOk ord31_T.2 ord31_B=true:=by kernel_rfl
attribute [local go_sem] Oper.semAt_some
set_option maxHeartbeats 8000000 in
set_option maxRecDepth 100000 in
theorem ptreeOrder_true (A0:Option Addr) (c0:Nat) (l0:List S59) (w:World)
 (hr0:Kd.C k59 w A0 l0.length l0) (hc0:l0.length<=c0) (o0 : ∀x∈l0,BytesOk x.f0/\BytesOk x.f1) (hGS:GlobS w):
 Calls Tryd.prog 6 #[.slice A0 l0.length c0] w fun e w'=>e = .returned (.bool true)/\Below w.heap.size w w':=by
 have HGS:=z_ hGS
 have HV0:=z_ (V_of_C59 hr0 hc0)
 have HO:=z_ o0
 have HNB:=z_ (show ¬newBad 8 65536 from by unfold newBad;omega)
 clear hGS hr0 hc0 o0
 obtain ⟨wa,hwa⟩ : ∃wa,wa=w.alloc (.cells #[.bool false] 4):=⟨_,rfl⟩
 have HBA:=z_ (show Below w.heap.size w wa from by rw [hwa];exact below_alloc (Below.refl _ _) _)
 have HG:=z_ (show wa.heap[w.heap.size]? = some (.cells #[.bool false] 4 (0,0)) from by rw [hwa];exact heap_alloc_new w _)
 have HSZ:=z_ (show wa.heap.size=w.heap.size+1 from by rw [hwa];simp)
 refine calls_of_postM Tryd.func6 rfl ?_
 simp only [Tryd.ntmps6,List.size_toArray,List.length_cons,List.length_nil,Nat.reduceAdd,Nat.reduceSub,Array.replicate_succ,Array.replicate_zero,List.push_toArray,List.append_toArray,List.nil_append,List.cons_append]
 go_wp2_with fail
 rw [<-hwa]
 clear hwa
 refine (annalslaw10_few.calls (l0.length+1) (fun k=>k<w.heap.size) A0 c0 l0 (fewL l0) wa (Kd.V_below HV0.out HBA.out) (few_f l0 (Kd.C_max (Kd.V_reads' HV0.out).2.2))).mono ?_
 rintro e w1 ⟨v1,rfl,hN1,hb1⟩
 obtain ⟨Af,cf,rfl⟩:=Kd.N_slice hN1
 have HNF:=z_ (Kd.N_bound hN1)
 have HB1:=z_ hb1
 obtain ⟨fl,hfl⟩ : ∃fl,fl=fewL l0:=⟨_,rfl⟩
 rw [<-hfl] at HNF
 rw [<-hfl]
 have HFL:=z_ (show fl.length<=30/\∀x∈fl,BytesOk x.f0/\x.f0.length<=30/\BytesOk x.f1/\x.f1.length<=100 from by
  rw [hfl]
  unfold fewL
  refine ⟨by rw [List.length_map,List.length_take];omega,fun x hx=>?_⟩
  obtain ⟨y,hy,rfl⟩:=List.mem_map.1 hx
  have:=HO.out y (List.mem_of_mem_take hy)
  exact ⟨fun q hq=>this.1 q (List.mem_of_mem_take hq),by show (y.f0.take 30).length<=30;rw [List.length_take];omega,fun q hq=>this.2 q (List.mem_of_mem_take hq),by show (y.f1.take 100).length<=100;rw [List.length_take];omega⟩)
 clear hN1 hb1 hfl
 go_wp2_with fail
 refine (new_calls 8 65536 w1 (by omega) (by omega) (by omega) (by omega)).mono ?_
 rintro e w2 ⟨rfl,hA,hb2⟩
 have HA:=z_ hA
 have HB2:=z_ hb2
 clear hA hb2
 obtain ⟨p,hp⟩ : ∃x,x=w1.heap.size:=⟨_,rfl⟩
 rw [<-hp]
 have HE:=z_ hp
 clear hp
 go_wp2_with fail
 obtain ⟨ga,hga⟩ : ∃x,x=w2.heap.size:=⟨_,rfl⟩
 rw [<-hga]
 obtain ⟨w3,hw3⟩ : ∃x,x=((w2.alloc (.cells #[.pointer (some ⟨p,0,none⟩)] 23)).alloc (.cells #[.int .i64 0] 24)):=⟨_,rfl⟩
 rw [<-hw3]
 have HB3:=z_ (show Below w2.heap.size w2 w3 from by rw [hw3];exact below_step (below_alloc (Below.refl _ _) _) (below_alloc (Below.refl _ _) _))
 have HGA:=z_ (show w3.heap[ga]? = some (.cells #[.pointer (some ⟨p,0,none⟩)] 23 (0,0)) from by rw [hw3,hga];exact blk_below (heap_alloc_new w2 _) (below_alloc (Below.refl _ _) _))
 have HGE:=z_ (show w3.heap[ga+1]? = some (.cells #[.int .i64 0] 24 (0,0)) from by rw [hw3,hga];have:=heap_alloc_new (w2.alloc (.cells #[.pointer (some ⟨p,0,none⟩)] 23)) (.cells #[.int .i64 0] 24);simpa using this)
 have HSZ3:=z_ (show w3.heap.size=ga+2/\ga=w2.heap.size/\p<ga/\w.heap.size<p/\wa.heap.size<=w1.heap.size from by
  have h1:=HA.out.lt
  have h2:=HB1.out.size
  have h3:=HSZ.out
  have h4:=HE.out
  refine ⟨by rw [hw3,hga];simp,hga,by omega,by omega,h2⟩)
 clear hga hw3
 obtain ⟨Sp,hSp⟩ : ∃Sp:Nat->Prop,Sp=fun k=>k=w.heap.size\/k=ga\/k=ga+1:=⟨_,rfl⟩
 have HSP:=z_ (show ∀k,Sp k↔k=w.heap.size\/k=ga\/k=ga+1 from fun k=>by rw [hSp])
 obtain ⟨X0,hX0⟩ : ∃X0:Nat->Prop,X0=fun k=>(k<w.heap.size\/wa.heap.size<=k)/\k<w1.heap.size:=⟨_,rfl⟩
 have HX0:=z_ (show ∀k,X0 k↔(k<w.heap.size\/wa.heap.size<=k)/\k<w1.heap.size from fun k=>by rw [hX0])
 have HXS:=z_ (show ∀k,X0 k->¬Sp k/\k<p from fun k hk=>by
  have h1:=(HX0.out k).1 hk
  have h2:=HSZ.out
  have h3:=HSZ3.out
  have h4:=HE.out
  rw [HSP.out]
  omega)
 have HNF3:=z_ (show Kd.N k59 59 w3 wa.heap.size X0 (.slice Af fl.length cf) fl from by
  rw [hX0]
  exact Kd.N_below HNF.out (below_step HB2.out HB3.out))
 have HSPS:=z_ (show (∀k,Sp k->k<w3.heap.size)/\Sp (ga+1)/\Sp ga/\Sp w.heap.size from by
  have h3:=HSZ3.out
  refine ⟨fun k hk=>?_,by rw [HSP.out];omega,by rw [HSP.out];omega,by rw [HSP.out];omega⟩
  have:=(HSP.out k).1 hk
  omega)
 clear hSp hX0
 have HI0:=z_ (show OrdM w3 w3.heap.size p (ga+1) Sp (fun k=>k=p\/k=ga+1) X0 0 (-1) none [] (.slice none 0 0) (.slice none 0 0) (.slice none 0 0) X0 [] w3 from by
  have hlt : ∀k,X0 k->k<w2.heap.size/\k≠p:=fun k hk=>by
   have:=HXS.out k hk
   have:=HSZ3.out
   omega
  have hM:ArenaM w3 p p 8 65536 (.slice none 0 0) (.slice none 0 0) X0 []:=by
   rw [HE.out]
   exact (ArenaM.start HNB.out HA.out HB2.out X0 (fun k hk=>⟨(hlt k hk).1,by rw [<-HE.out];exact (hlt k hk).2⟩)).below HB3.out
  refine ⟨hM,fun _ h=>h,fun k hk=>⟨fun hx=>(HXS.out k hx).1 hk,fun ho=>?_⟩,fun k ho=>?_,TreeIn.none 8 (nodeAt_nil _) CsG.nil,by simp [usedN],fun _=>rfl,Kd.N_nil _ _ _ _ _,fun k hk=>by simp [Value.ownBlock] at hk,Kept.refl _ _,Below.refl _ _,HGE.out⟩
  ·rcases ho with h|h|h
   ·have h1:=(HSP.out k).1 hk
    have h2:=HSZ3.out
    omega
   ·simp [Value.ownBlock] at h
   ·simp [Value.ownBlock] at h
  ·rcases ho with h|h|h
   ·exact .inl (.inl h)
   ·simp [Value.ownBlock] at h
   ·simp [Value.ownBlock] at h)
 have HGLO:=z_ (show ∀W,Below p w3 W->GlobS W from fun W hW=>by
  have h3:=HSZ3.out
  have h4:=HB2.out.size
  have h5:=HSZ.out
  have h6:=HE.out
  exact GlobS.of HGS.out (HBA.out.trans ((HB1.out.mono (by omega)).trans ((HB2.out.mono (by omega)).trans ((HB3.out.mono (by omega)).trans (hW.mono (by omega)))))))
 have HMZ:=z_ (show ∀W,Below p w3 W->Below w.heap.size w W from fun W hW=>by
  have h3:=HSZ3.out
  have h4:=HB2.out.size
  have h5:=HSZ.out
  have h6:=HE.out
  exact HBA.out.trans ((HB1.out.mono (by omega)).trans ((HB2.out.mono (by omega)).trans ((HB3.out.mono (by omega)).trans (hW.mono (by omega))))))
 go_loopg [5,6,29] (fl.length+1) (fun kq v5 v6 v29 wr=>∃(j:Nat) (root:Int) (t:Option PT) (cs:Cs) (vc vf vl:Value) (X:Nat->Prop) (la:List PutS),v5=vl/\v6 = .int .i64 root/\v29 = .int .i64 (j:Int)/\Aside0 (kq+j=fl.length+1/\j<=fl.length/\la.length<=j/\LastOk la (leavesO t)/\∀x∈la,BytesOk x.f0/\x.f0.length<=30/\BytesOk x.f1/\x.f1.length<=100/\0<=x.f2)/\Aside0 (OrdM w3 w3.heap.size p (ga+1) Sp (fun k=>k=p\/k=ga+1) X0 j root t cs vc vf vl X la wr))
 case atStart=>
  exact ⟨0,-1,none,[],_,_,_,X0,[],rfl,by first|rfl|simp,by first|rfl|simp,⟨rfl,Nat.zero_le _,Nat.le_refl _,lastOk_nil,fun x hx=>by cases hx⟩,HI0⟩
 case round=>
  obtain ⟨j,root,t,cs,vc,vf,vl,X,la,rfl,rfl,rfl,HK,HM⟩:=hrel
  obtain ⟨Al,cl,hvl⟩:=Kd.N_slice HM.out.rows
  subst hvl
  by_cases hlt:j<fl.length
  ·have hd:decide ((j:Int)<(fl.length:Int))=true:=by simp;omega
   have hd2:decide (0<=(j:Int))=true:=by simp
   obtain ⟨k1,rfl⟩ : ∃k1,gk=k1+1:=⟨gk-1,by have:=HK.out;omega⟩
   have hNr:=Kd.N_step HNF3.out (w1:=wr) (fun k hk hl=>HM.out.kept.2 k hl (fun h=>by
    have h1:=HXS.out k hk
    have h2:=HSZ3.out
    rcases h with h|h<;>omega))
   obtain ⟨gb,cap,he,hgb,_,_⟩:=Kd.N_form hNr (by omega)
   injection he with e1 e2 e3
   subst e1 e3
   obtain ⟨c,hcl,hFK,hcc,hfr⟩:=Kd.N_elem hNr z59 (j:Int) (by omega) (by omega)
   obtain ⟨x,hx⟩ : ∃x,x=fl.getD ((j:Int)).toNat z59:=⟨_,rfl⟩
   have hxm:x∈fl:=by rw [hx,Int.toNat_natCast,List.getD_eq_getElem?_getD,List.getElem?_eq_getElem hlt];exact List.getElem_mem hlt
   rw [<-hx] at hFK
   obtain ⟨B1,d1,B2,d2,rfl,l1,F1,l2,F2⟩:=k59_openF hFK
   have x0:=hcc 0 _ rfl
   have x1:=hcc 1 _ rfl
   have x2:=hcc 2 _ rfl
   simp only [show k59.sz=3 from rfl,Int.toNat_natCast,Nat.add_zero] at x0 x1 x2
   have HXO:=z_ (HFL.out.2 x hxm)
   obtain ⟨sn,hsn⟩ : ∃sn,sn=wrap64 ((IntKind.u64.wrap x.f2).tmod 200):=⟨_,rfl⟩
   have HSN:=z_ (show 0<=sn from by rw [hsn];exact since_ok _)
   obtain ⟨w5,hw5⟩ : ∃w5,w5=wr.alloc (.cells #[.slice B1 x.f0.length d1,.slice B2 x.f1.length d2,.int .i64 (wrap64 ((IntKind.u64.wrap x.f2).tmod 200))] 59):=⟨_,rfl⟩
   have HB5:=z_ (show Below wr.heap.size wr w5 from by rw [hw5];exact below_alloc (Below.refl _ _) _)
   have HP5:=z_ (show w5.heap[wr.heap.size]? = some (.cells #[.slice B1 x.f0.length d1,.slice B2 x.f1.length d2,.int .i64 sn] 59 (0,0)) from by rw [hw5,hsn];exact heap_alloc_new wr _)
   have HGA5:=z_ (show w5.heap[ga]? = some (.cells #[.pointer (some ⟨p,0,none⟩)] 23 (0,0)) from blk_below ((HM.out.kept.2 ga (by have:=HSZ3.out;omega) (by have:=HSZ3.out;omega)).trans HGA.out) HB5.out)
   have hpr:p<=wr.heap.size:=by have:=(blkA HM.out.m).lt;omega
   have HM5:=z_ (HM.out.below HB5.out hpr)
   have hF : ∀ {A:Option Addr} {c:Nat} {l:List Int},l.length<=c->Kd.F (Kd.int .u8) wr (fun k=>X0 k/\k≠gb) A l.length l->BX w5 X0 (.slice A l.length c) l:=fun hc hf=>
    Kd.V_below ⟨_,_,rfl,hc,Kd.F_mono hf (fun k hk=>hk.1)⟩ HB5.out
   have HFX:=z_ (And.intro (hF l1 F1) (hF l2 F2))
   have HPRE:=z_ (show InsPre w5 p p 8 65536 vc vf X cs B1 B2 d1 d2 x.f0 x.f1 from
    ⟨HM5.out.m,HM.out.tree.g.ok,fun n hn=>(HM.out.tree.g n hn).h9,Kd.V_mono HFX.out.1 HM.out.x0,Kd.V_mono HFX.out.2 HM.out.x0,HXO.out.1,HXO.out.2.2.1,by have:=HXO.out.2.1;omega,by have:=HXO.out.2.2.2;omega,fun W hW=>HGLO.out W (HM5.out.low.trans hW)⟩)
   have ke:=blk_cell HGA5.out 0
   rw [hw5] at ke
   simp at ke
   clear hx hFK hcc hfr hcl hxm hNr l1 F1 l2 F2 hF
   go_wp2_with fail
   rw [<-hw5,<-hsn]
   clear hw5 hsn ke x0 x1 x2
   obtain ⟨gp,hgp⟩ : ∃g,g=wr.heap.size:=⟨_,rfl⟩
   rw [<-hgp] at HP5
   rw [<-hgp]
   have HGP:=z_ (show gp=wr.heap.size/\w3.heap.size<=gp from ⟨hgp,by rw [hgp];exact HM.out.kept.1⟩)
   clear hgp
   refine (insert_calls HPRE.out root sn t HM.out.tree).mono ?_
   rintro e w6 ⟨i,er,cs',hout,rfl,hA6⟩
   obtain ⟨rfl,t',k1,k2,k3,k4⟩:=order_step HM.out.tree HXO.out.1 HXO.out.2.1 HXO.out.2.2.1 HXO.out.2.2.2 HSN.out HM.out.used (by have:=HFL.out.1;omega) (by rw [HK.out.2.2.2.1.len HM.out.tree.good];have:=HK.out;have:=HFL.out.1;omega) HM.out.rt hout
   obtain ⟨vc',vf',X',m1,m2,m3,m4,m5,m6⟩:=HM5.out.m.next hA6
   have HL6:=z_ k4
   have HM6:=z_ (HM5.out.ins (fun k hk=>by have:=HSPS.out.1 k hk;have:=HM5.out.kept.1;omega) HSPS.out.2.1 k1 k3 (fun h=>by cases h) HM5.out.kept.1 m1 m2 m3 m4 m5 m6)
   have HP6:=z_ (show w6.heap[gp]? = some (.cells #[.slice B1 x.f0.length d1,.slice B2 x.f1.length d2,.int .i64 sn] 59 (0,0)) from (m5.2 gp (blk_lt HP5.out) (fun ho=>by
    obtain ⟨rows,fr,hv⟩:=HM.out.m.mem
    have h1:=hv.own_lt gp ho
    have h2:=HGP.out.1
    omega)).trans HP5.out)
   have HF6:=z_ (show BX w6 X0 (.slice B1 x.f0.length d1) x.f0/\BX w6 X0 (.slice B2 x.f1.length d2) x.f1 from by
    have hs : ∀k,X0 k->k<w5.heap.size->w6.heap[k]? = w5.heap[k]? := fun k hk hl=>m5.2 k hl (HM5.out.m.sep k (HM.out.x0 k hk)).2
    exact ⟨Kd.V_step HFX.out.1 hs,Kd.V_step HFX.out.2 hs⟩)
   have HO6:=z_ m4
   clear hout hA6 k1 k2 k3 k4 m1 m2 m3 m4 m5 m6
   have ke:=blk_cell HM6.out.err 0
   have kf:=blk_frozen HM6.out.err 0
   simp at ke kf
   go_wp2_with fail
   obtain ⟨w7,hw7⟩ : ∃w7,w7=w6.setCell ⟨ga+1,0,none⟩ (.int .i64 0):=⟨_,rfl⟩
   rw [<-hw7]
   have HW7:=z_ (show (∀k,k≠ga+1->w7.heap[k]? = w6.heap[k]?)/\w6.heap.size=w7.heap.size from by
    rw [hw7]
    exact ⟨fun k hk=>Below.heap_setCell _ ⟨ga+1,0,none⟩ _ k hk,by simp⟩)
   have HM7:=z_ (HM6.out.touch (W':=w7) (fun k=>k=ga+1) (Nat.le_of_eq HW7.out.2) (fun k _ hk=>HW7.out.1 k hk) (fun k hk=>by subst hk;exact ⟨HSPS.out.2.1,.inl (.inr rfl)⟩) (fun k hk=>(HXS.out k hk).1) (fun k hk he=>by
    have h1:=Kd.N_base HM6.out.rows k he.symm
    have h2:=HSPS.out.1 k hk
    omega) (by rw [hw7];exact Below.setCell HM6.out.low (by have:=HSZ3.out;show p<=ga+1;omega) _) (by rw [hw7];exact blk_set HM6.out.err 0 _))
   have hne:gp≠ga+1:=by have:=HGP.out;have:=HSZ3.out;omega
   have HP7:=z_ ((HW7.out.1 gp hne).trans HP6.out)
   have HF7:=z_ (show BX w7 X0 (.slice B1 x.f0.length d1) x.f0/\BX w7 X0 (.slice B2 x.f1.length d2) x.f1 from by
    have hs : ∀k,X0 k->k<w6.heap.size->w7.heap[k]? = w6.heap[k]? := fun k hk _=>HW7.out.1 k (by have:=HXS.out k hk;have:=HSZ3.out;omega)
    exact ⟨Kd.V_step HF6.out.1 hs,Kd.V_step HF6.out.2 hs⟩)
   clear hw7 ke kf hne
   have hpz:p<=w7.heap.size:=by have:=(blkA HM7.out.m).lt;omega
   refine (index_puts (show PidAt w7 gp X0 x.f0 from ⟨⟨B1,d1,_,_,HP7.out,HF7.out.1⟩,HXO.out.1⟩) Al cl la (Kd.N_reads' HM7.out.rows).2.2 (fun y hy=>(HK.out.2.2.2.2 y hy).1)).mono ?_
   rintro e w8 ⟨rfl,hb8⟩
   have HM8:=z_ (HM7.out.below hb8 hpz)
   have HP8:=z_ (blk_below HP7.out hb8)
   have HF8:=z_ (show BX w8 X0 (.slice B1 x.f0.length d1) x.f0/\BX w8 X0 (.slice B2 x.f1.length d2) x.f1 from ⟨Kd.V_below HF7.out.1 hb8,Kd.V_below HF7.out.2 hb8⟩)
   have HS8:=z_ (show w3.heap.size<=w8.heap.size/\wr.heap.size<=w8.heap.size from by
    have h1:=HM7.out.kept.1
    have h2:=hb8.size
    have h3:=blk_lt HP7.out
    have h4:=HGP.out
    omega)
   clear hb8 hpz
   have HNX:=z_ (show LastOk (lastF la ⟨x.f0,x.f1,sn⟩) (leavesO (some t')) from HK.out.2.2.2.1.next (p:=⟨x.f0,x.f1,sn⟩) HL6.out)
   have hw:wrap64 ((j:Int)+1)=((j+1:Nat):Int):=by rw [wrap64_id _ (by have:=HFL.out.1;omega)];omega
   have HII:=z_ (idxP_spec x.f0 la 0)
   obtain ⟨ix,hix⟩ : ∃ix,ix=idxP x.f0 la 0:=⟨_,rfl⟩
   have HLF:=z_ (show lastF la ⟨x.f0,x.f1,sn⟩=if ix = -1 then la++[⟨x.f0,x.f1,sn⟩] else (la.take ix.toNat++la.drop (ix.toNat+1))++[⟨x.f0,x.f1,sn⟩] from by rw [hix];rfl)
   rw [<-hix] at HII
   rw [<-hix]
   clear hix
   rcases HII.out with ⟨h1,h2⟩|⟨m,h1,h2,h3⟩
   ·subst h1
    have HLN:=z_ (And.intro (show lastF la ⟨x.f0,x.f1,sn⟩=la++[⟨x.f0,x.f1,sn⟩] from HLF.out) h2)
    have hd3:decide ((0:Int)<=(-1:Int))=false:=by decide
    clear h2
    have k0:=blk_cell HP8.out 0
    have k1':=blk_cell HP8.out 1
    have k2':=blk_cell HP8.out 2
    simp at k0 k1' k2'
    have HLL:=z_ (show la.length<=30 from by have:=HK.out;have:=HFL.out.1;omega)
    have HPF:=z_ (show Kd.FK k59 w8 X0 ⟨x.f0,x.f1,sn⟩ [.slice B1 x.f0.length d1,.slice B2 x.f1.length d2,.int .i64 sn] from k59_mkF _ _ (⟨x.f0,x.f1,sn⟩:PutS) (Kd.V_reads' HF8.out.1).2.1 (Kd.V_F HF8.out.1) (Kd.V_reads' HF8.out.2).2.1 (Kd.V_F HF8.out.2))
    have HOK:=z_ (show (∀k,X0 k->(X0 k\/(w3.heap.size<=k/\¬OwnS p vc' vf' k/\¬Sp k))/\some k≠(.slice Al la.length cl:Value).ownBlock)/\(∀k,w8.heap.size<=k->X0 k\/(w3.heap.size<=k/\¬OwnS p vc' vf' k/\¬Sp k)) from by
     refine ⟨fun k hk=>⟨.inl hk,fun he=>?_⟩,fun k hk=>.inr ⟨by have:=HS8.out;omega,fun ho=>?_,fun hs=>?_⟩⟩
     ·have h1:=Kd.N_base HM8.out.rows k he.symm
      have h2:=HXS.out k hk
      have h3:=HSZ3.out
      omega
     ·obtain ⟨rows,fr,hv⟩:=HM8.out.m.mem
      have:=hv.own_lt k ho
      omega
     ·have h1:=HSPS.out.1 k hs
      have h2:=HS8.out
      omega)
    go_wp2_with (first|((with_reducible refine gate_builtin (b:=.append) (xs:=#[.tmp 63,.tmp 65]) rfl ?_);at_builtin;refine Kd.N_append k59 (w0:=w8) w3.heap.size rfl (.tmp 63) (.tmp 65) 57 59 (.agg #[.slice none 0 0,.slice none 0 0,.int .i64 0]) 56 rfl Tryd.underlying57 (by kernel_rfl) rfl (by decide) (by omega) (.slice Al la.length cl) (la) (⟨x.f0,x.f1,sn⟩:PutS) [.slice B1 x.f0.length d1,.slice B2 x.f1.length d2,.int .i64 sn] (fun k=>X0 k\/(w3.heap.size<=k/\¬OwnS p vc' vf' k/\¬Sp k)) X0 rfl rfl HPF.out HOK.out.1 HOK.out.2 HM8.out.rows (Below.refl _ _) HS8.out.1 (by have:=HLL.out;omega) ?_;intro v1 w10 hN hB hG hat;have HN10:=z_ hN;have HB10:=z_ (And.intro hB (And.intro hG hat));clear hN hB hG hat k0 k1' k2'))
    have hK:=HK.out
    have hJ:=HFL.out.1
    go_roundg k1
    case measure=>omega
    case rel=>exact ⟨j+1,i,some t',cs',vc',vf',v1,X',la++[⟨x.f0,x.f1,sn⟩],by first|rfl|simp,by first|rfl|simp,by first|rw [hw]|(rw [hw];rfl),⟨by omega,by omega,by rw [List.length_append,List.length_singleton];omega,by rw [<-HLN.out.1];exact HNX.out,fun y hy=>by
     rcases List.mem_append.1 hy with hy|hy
     ·exact HK.out.2.2.2.2 y (hy)
     ·rw [List.mem_singleton] at hy
      rw [hy]
      exact ⟨HXO.out.1,HXO.out.2.1,HXO.out.2.2.1,HXO.out.2.2.2,HSN.out⟩⟩,⟨HM8.out.row rfl (by have:=HSZ3.out;omega) HSPS.out.1 HSPS.out.2.1 ⟨HB10.out.2.1.size,fun k hk hn=>HB10.out.2.1.block k hk hn⟩ HB10.out.1 HN10.out HB10.out.2.2 (fun k hk=>by have:=HXS.out k hk;have:=HSZ3.out;omega)⟩⟩
   ·have h2':ix=(m:Int):=by rw [h2];simp
    subst h2'
    have HLN:=z_ (show lastF la ⟨x.f0,x.f1,sn⟩=la.eraseIdx m++[⟨x.f0,x.f1,sn⟩] from by
     rw [HLF.out,if_neg (by omega),Int.toNat_natCast,List.eraseIdx_eq_take_drop_succ])
    have hd3:decide ((0:Int)<=(m:Int))=true:=by simp
    have hw2:wrap64 ((m:Int)+1)=((m+1:Nat):Int):=by rw [wrap64_id _ (by have:=HFL.out.1;have:=HK.out;omega)];omega
    have HMI:=z_ h1
    have hpz:p<=w8.heap.size:=by have:=(blkA HM8.out.m).lt;omega
    obtain ⟨gl,cap,he,hgl,_,_⟩:=Kd.N_form HM8.out.rows (by omega)
    injection he with e1 e2 e3
    subst e1 e3
    clear h1 h2 h3
    go_wp2_with fail
    refine (delete_puts (m:=m) (m1:=m+1) HM8.out.rows rfl HMI.out rfl HS8.out.1).mono ?_
    rintro e w9 ⟨rfl,hN9,hk9,hb9⟩
    have HM9:=z_ (HM8.out.row rfl (by have:=HSZ3.out;omega) HSPS.out.1 HSPS.out.2.1 (hk9.mono (fun k hk=>by rw [hk];rfl)) hb9 hN9 (.inl rfl) (fun k hk=>by have:=HXS.out k hk;have:=HSZ3.out;omega))
    have hgne : ∀k,k<w3.heap.size->w9.heap[k]? = w8.heap[k]? := fun k hk=>hb9.block k hk
    have hpg:w9.heap[gp]? = w8.heap[gp]? := hk9.2 gp (blk_lt HP8.out) (fun he=>by
     have h1:=Kd.N_lt HM.out.rows gl rfl
     have h2:=HGP.out.1
     omega)
    have HP9:=z_ (hpg.trans HP8.out)
    have HF9:=z_ (show BX w9 X0 (.slice B1 x.f0.length d1) x.f0/\BX w9 X0 (.slice B2 x.f1.length d2) x.f1 from ⟨Kd.V_step HF8.out.1 (fun k hk _=>hgne k (by have:=HXS.out k hk;have:=HSZ3.out;omega)),Kd.V_step HF8.out.2 (fun k hk _=>hgne k (by have:=HXS.out k hk;have:=HSZ3.out;omega))⟩)
    replace HS8:=z_ (show w3.heap.size<=w9.heap.size/\wr.heap.size<=w9.heap.size from by have h1:=HS8.out;have h2:=hk9.1;omega)
    clear hN9 hk9 hb9 hgne hpg hpz
    have k0:=blk_cell HP9.out 0
    have k1':=blk_cell HP9.out 1
    have k2':=blk_cell HP9.out 2
    simp at k0 k1' k2'
    have HLL:=z_ (show (la.eraseIdx m).length<=30 from by rw [List.length_eraseIdx];have:=HK.out;have:=HFL.out.1;split<;>omega)
    have HPF:=z_ (show Kd.FK k59 w9 X0 ⟨x.f0,x.f1,sn⟩ [.slice B1 x.f0.length d1,.slice B2 x.f1.length d2,.int .i64 sn] from k59_mkF _ _ (⟨x.f0,x.f1,sn⟩:PutS) (Kd.V_reads' HF9.out.1).2.1 (Kd.V_F HF9.out.1) (Kd.V_reads' HF9.out.2).2.1 (Kd.V_F HF9.out.2))
    have HOK:=z_ (show (∀k,X0 k->(X0 k\/(w3.heap.size<=k/\¬OwnS p vc' vf' k/\¬Sp k))/\some k≠(.slice (some ⟨gl,0,none⟩) (la.length-1) cl:Value).ownBlock)/\(∀k,w9.heap.size<=k->X0 k\/(w3.heap.size<=k/\¬OwnS p vc' vf' k/\¬Sp k)) from by
     refine ⟨fun k hk=>⟨.inl hk,fun he=>?_⟩,fun k hk=>.inr ⟨by have:=HS8.out;omega,fun ho=>?_,fun hs=>?_⟩⟩
     ·have h1:=Kd.N_base HM9.out.rows k he.symm
      have h2:=HXS.out k hk
      have h3:=HSZ3.out
      omega
     ·obtain ⟨rows,fr,hv⟩:=HM9.out.m.mem
      have:=hv.own_lt k ho
      omega
     ·have h1:=HSPS.out.1 k hs
      have h2:=HS8.out
      omega)
    go_wp2_with (first|((with_reducible refine gate_builtin (b:=.append) (xs:=#[.tmp 63,.tmp 65]) rfl ?_);at_builtin;refine Kd.N_append k59 (w0:=w9) w3.heap.size rfl (.tmp 63) (.tmp 65) 57 59 (.agg #[.slice none 0 0,.slice none 0 0,.int .i64 0]) 56 rfl Tryd.underlying57 (by kernel_rfl) rfl (by decide) (by omega) (.slice (some ⟨gl,0,none⟩) (la.length-1) cl) ((la.eraseIdx m)) (⟨x.f0,x.f1,sn⟩:PutS) [.slice B1 x.f0.length d1,.slice B2 x.f1.length d2,.int .i64 sn] (fun k=>X0 k\/(w3.heap.size<=k/\¬OwnS p vc' vf' k/\¬Sp k)) X0 rfl rfl HPF.out HOK.out.1 HOK.out.2 HM9.out.rows (Below.refl _ _) HS8.out.1 (by have:=HLL.out;omega) ?_;intro v1 w10 hN hB hG hat;have HN10:=z_ hN;have HB10:=z_ (And.intro hB (And.intro hG hat));clear hN hB hG hat k0 k1' k2'))
    have hK:=HK.out
    have hJ:=HFL.out.1
    go_roundg k1
    case measure=>omega
    case rel=>exact ⟨j+1,i,some t',cs',vc',vf',v1,X',(la.eraseIdx m)++[⟨x.f0,x.f1,sn⟩],by first|rfl|simp,by first|rfl|simp,by first|rw [hw]|(rw [hw];rfl),⟨by omega,by omega,by rw [List.length_append,List.length_singleton];rw [List.length_eraseIdx];split<;>omega,by rw [<-HLN.out];exact HNX.out,fun y hy=>by
     rcases List.mem_append.1 hy with hy|hy
     ·exact HK.out.2.2.2.2 y (List.mem_of_mem_eraseIdx hy)
     ·rw [List.mem_singleton] at hy
      rw [hy]
      exact ⟨HXO.out.1,HXO.out.2.1,HXO.out.2.2.1,HXO.out.2.2.2,HSN.out⟩⟩,⟨HM9.out.row rfl (by have:=HSZ3.out;omega) HSPS.out.1 HSPS.out.2.1 ⟨HB10.out.2.1.size,fun k hk hn=>HB10.out.2.1.block k hk hn⟩ HB10.out.1 HN10.out HB10.out.2.2 (fun k hk=>by have:=HXS.out k hk;have:=HSZ3.out;omega)⟩⟩
  ·obtain rfl:j=fl.length:=by have:=HK.out;omega
   have hd:decide ((fl.length:Int)<(fl.length:Int))=false:=by simp
   go_wp2_with fail
   refine (backward_puts Al la.length cl _).mono ?_
   rintro e wL ⟨rfl,hwL⟩
   have hsz:(wr.alloc (.cells #[.int .i64 (-1)] 3)).heap.size=wr.heap.size+1:=by simp
   rw [hsz]
   go_wp2_with fail
   obtain ⟨wm,hwm⟩ : ∃x,x=wr.alloc (.cells #[.int .i64 (-1)] 3):=⟨_,rfl⟩
   rw [<-hwm] at hwL ⊢
   obtain ⟨gt,hgt⟩ : ∃g,g=wr.heap.size:=⟨_,rfl⟩
   rw [<-hgt] at hsz ⊢
   rw [<-hwm] at hsz
   have HBm:=z_ (show Below wr.heap.size wr wm from by rw [hwm];exact below_alloc (Below.refl _ _) _)
   have HBL:=z_ (show Below wm.heap.size wm wL from by rw [hwL];exact below_alloc (Below.refl _ _) _)
   have HGT:=z_ (show wL.heap[gt]? = some (.cells #[.int .i64 (-1)] 3 (0,0)) from blk_below (by rw [hwm,hgt];exact heap_alloc_new wr _) HBL.out)
   have HGB:=z_ (show wL.heap[gt+1]? = some (.cells #[.slice Al la.length cl] 57 (0,0)) from by rw [hwL,<-hsz];exact heap_alloc_new wm _)
   have HZ:=z_ (show wr.heap.size=gt/\wL.heap.size=gt+2 from ⟨hgt.symm,by rw [hwL];simp [hsz]⟩)
   rw [<-hwL]
   clear hwL hwm hsz hgt
   have hgz:w3.heap.size<=gt:=by have:=HM.out.kept.1;have:=HZ.out.1;omega
   have HWL:=z_ (show Below wr.heap.size wr wL from below_step HBm.out HBL.out)
   have HML:=z_ (HM.out.below HWL.out (by have:=HSZ3.out;have:=HM.out.kept.1;omega))
   obtain ⟨O0,hO0⟩ : ∃O0:Nat->Prop,O0=fun k=>OwnS p vc vf k\/k=ga+1\/k=gt:=⟨_,rfl⟩
   have HOO:=z_ (show ∀k,O0 k↔OwnS p vc vf k\/k=ga+1\/k=gt from fun k=>by rw [hO0])
   obtain ⟨S2,hS2⟩ : ∃S2:Nat->Prop,S2=fun k=>Sp k\/k=gt\/k=gt+1\/k=wL.heap.size\/k=wL.heap.size+1:=⟨_,rfl⟩
   have HSS:=z_ (show ∀k,S2 k↔Sp k\/k=gt\/k=gt+1\/k=wL.heap.size\/k=wL.heap.size+1 from fun k=>by rw [hS2])
   have HOW:=z_ (show (∀k,OwnS p vc vf k->k<gt)/\∀k,X k->k<gt from by
    obtain ⟨rows,fr,hv⟩:=HM.out.m.mem
    have hz:=HZ.out.1
    exact ⟨fun k ho=>by have:=hv.own_lt k ho;omega,fun k hx=>by have:=(HM.out.m.sep k hx).1;omega⟩)
   clear hO0 hS2
   obtain ⟨XB,hXB⟩ : ∃XB:Nat->Prop,XB=fun k=>(X0 k\/(w3.heap.size<=k/\¬OwnS p vc vf k/\¬Sp k))/\k<wr.heap.size:=⟨_,rfl⟩
   have HXB:=z_ (show ∀k,XB k↔(X0 k\/(w3.heap.size<=k/\¬OwnS p vc vf k/\¬Sp k))/\k<wr.heap.size from fun k=>by rw [hXB])
   have HNB2:=z_ (show Kd.N k59 59 wL w3.heap.size XB (.slice Al la.length cl) la from by rw [hXB];exact Kd.N_below (Kd.N_bound HM.out.rows) HWL.out)
   clear hXB
   have HXS2:=z_ (show ∀k,XB k->¬S2 k/\¬O0 k/\¬OwnS p vc vf k/\k<gt from fun k hk=>by
    obtain ⟨hk1,hk2⟩:=(HXB.out k).1 hk
    have h2:=HSZ3.out
    have h3:=HZ.out
    have h4 : ¬OwnS p vc vf k/\¬Sp k:=by
     rcases hk1 with h|h
     ·exact ⟨(HM.out.m.sep k (HM.out.x0 k h)).2,(HXS.out k h).1⟩
     ·exact h.2
    have h5:k≠ga+1:=fun e=>h4.2 (by rw [e];exact HSPS.out.2.1)
    refine ⟨fun hs=>?_,fun ho=>?_,h4.1,by omega⟩
    ·rcases (HSS.out k).1 hs with h|h
     ·exact h4.2 h
     ·omega
    ·rcases (HOO.out k).1 ho with h|h
     ·exact h4.1 h
     ·omega)
   have HJ0:=z_ (show OrdJ wL p (ga+1) gt S2 O0 XB la root t 0 wL from
    ⟨-1,none,cs,vc,vf,fun k=>X k\/XB k,⟨HML.out.m.more XB (fun k hk=>⟨by have:=(HXS2.out k hk).2.2.2;have:=HZ.out;omega,(HXS2.out k hk).2.2.1⟩),fun _ h=>.inr h,fun k hk=>(by
     have hb : ¬XB k:=fun hb=>(HXS2.out k hb).1 hk
     rcases (HSS.out k).1 hk with h|h
     ·exact ⟨fun hx=>hx.elim (HM.out.sp k h).1 hb,(HM.out.sp k h).2⟩
     ·have h3:=HZ.out
      exact ⟨fun hx=>hx.elim (fun hx=>by have:=HOW.out.2 k hx;omega) hb,fun ho=>by have:=HOW.out.1 k ho;omega⟩),fun k ho=>.inl ((HOO.out k).2 (.inl ho)),TreeIn.none 8 (nodeAt_neg cs (-1) (by omega)) HM.out.tree.g,by have:=HM.out.used;have:=HFL.out.1;omega,fun _=>rfl,Kd.N_nil _ _ _ _ _,fun k hk=>by simp [Value.ownBlock] at hk,Kept.refl _ _,Below.refl _ _,HML.out.err⟩,HM.out.tree,HGT.out,fun y=>by
     rw [Nat.sub_zero,List.drop_length]
     exact Iff.rfl⟩)
   obtain ⟨rows,hrl,hrow⟩:=puts_rows HNB2.out
   have HRL:=z_ hrl
   have HRW:=z_ hrow
   rw [<-hrl] at HGB
   clear hrl hrow
   refine wpIn_wide.1 (forEach (F:=Fence.wide) (n:=5) rfl (by omega) (gf:=69) (lb:=#[.pointer (some ⟨gt+1,0,none⟩)]) rfl trivial (enters_of Tryd.func69 (by kernel_rfl) rfl) (back_puts 4 (gt+1) Al cl rows (by omega) (by have:=HRL.out;have:=HK.out;have:=HFL.out.1;omega)) (fun _=>rfl)
    (fun pre W=>OrdJ wL p (ga+1) gt S2 O0 XB la root t pre.length W) ?hK (fun pre W W' h hb=>h.below hb) (fun pre W o hlt h=>h.turn ((HSS.out _).2 (by omega)) (fun k hk=>(HXS2.out k hk).1) (by have:=HSZ3.out;have:=HZ.out;omega) (by have:=HSZ3.out;have:=HZ.out;omega) (by have:=HZ.out;omega) o) HJ0.out ?hbody ?hdone)
   case hK=>
    intro pre W hI
    obtain ⟨root',u,cs',vc',vf',X',h1,_⟩:=hI.ex
    have hkeep : ∀k,k<wL.heap.size->¬O0 k->W.heap[k]? = wL.heap[k]? := h1.kept.2
    have hgb : ¬O0 (gt+1):=fun ho=>by
     rcases (HOO.out _).1 ho with h|h
     ·have:=HOW.out.1 _ h
      omega
     ·have:=HSZ3.out
      omega
    refine ⟨(cell_same (hkeep (gt+1) (by have:=HZ.out;omega) hgb)).trans (blk_cell HGB.out 0),fun k hk=>?_⟩
    obtain ⟨g,B1,d1,B2,d2,e1,e2,e3,_⟩:=HRW.out k (by rw [<-HRL.out];exact hk)
    have hgw:=HXS2.out g (HNB2.out.1 g (by rw [e1];rfl))
    exact ⟨by rw [e2];rfl,g,e1,fun j u hu=>(cell_same (hkeep g (by have:=HZ.out;omega) hgw.2.1)).trans (e3 j u hu)⟩
   case hbody=>
    intro l pre x W hl hlt hI hx
    obtain ⟨hj,rfl⟩:=backs_row rows _ pre x hx
    obtain ⟨k,hk⟩ : ∃k,k=rows.length-1-pre.length:=⟨_,rfl⟩
    rw [<-hk]
    obtain ⟨q,hq⟩ : ∃q,q=la.getD k z59:=⟨_,rfl⟩
    have hkl:k<la.length:=by have:=HRL.out;omega
    obtain ⟨g,B1,d1,B2,d2,e1,e2,e3,l1,F1,l2,F2⟩:=HRW.out k hkl
    rw [<-hq] at e2 l1 F1 l2 F2
    rw [e2]
    have HI:=z_ hI
    have HLL:=z_ (And.intro hl hlt)
    have HQM:=z_ (show q∈la from by rw [hq,List.getD_eq_getElem?_getD,List.getElem?_eq_getElem hkl];exact List.getElem_mem hkl)
    have HDR:=z_ (show la.drop (la.length-(pre.length+1))=q :: la.drop (la.length-pre.length) from by
     rw [show la.length-(pre.length+1)=k by have:=HRL.out;omega,show la.length-pre.length=k+1 by have:=HRL.out;omega,hq,List.getD_eq_getElem?_getD,List.getElem?_eq_getElem hkl]
     exact List.drop_eq_getElem_cons hkl)
    have HPL:=z_ (show pre.length<la.length from by have:=HRL.out;omega)
    have HQF:=z_ (And.intro l1 (And.intro F1 (And.intro l2 F2)))
    clear hI hx hj hk hkl e1 e2 e3 hl hlt hq l1 F1 l2 F2
    gi_wp2
    refine ⟨fun k hk=>(below_alloc (Below.refl W.heap.size W) _).block k (by have:=HLL.out.2;rcases hk with rfl|rfl<;>omega),HI.out.below (below_alloc (Below.refl _ _) _),fun o=>?_⟩
    obtain ⟨W2,hW2⟩ : ∃W2,W2=(W.alloc (.cells #[.slice B1 q.f0.length d1,.slice B2 q.f1.length d2,.int .i64 q.f2] 59)).putObj l o:=⟨_,rfl⟩
    have HI2:=z_ (show OrdJ wL p (ga+1) gt S2 O0 XB la root t pre.length W2 from by
     rw [hW2,HLL.out.1]
     exact (HI.out.below (below_alloc (Below.refl _ _) _)).turn ((HSS.out _).2 (by omega)) (fun k hk=>(HXS2.out k hk).1) (by have:=HSZ3.out;have:=HZ.out;omega) (by have:=HSZ3.out;have:=HZ.out;omega) (by have:=HZ.out;omega) o)
    have HSZ2:=z_ (show W2.heap.size=W.heap.size+1 from by rw [hW2,World.putObj_size];simp)
    have HN2:=z_ (show W2.heap[W.heap.size]? = some (.cells #[.slice B1 q.f0.length d1,.slice B2 q.f1.length d2,.int .i64 q.f2] 59 (0,0)) from by
     rw [hW2]
     exact (World.putObj_heap_other (by have:=HLL.out.1;have:=HLL.out.2;omega)).trans (heap_alloc_new W _))
    rw [<-hW2]
    clear hW2
    obtain ⟨gq,hgq⟩ : ∃g,g=W.heap.size:=⟨_,rfl⟩
    rw [<-hgq] at HN2
    rw [<-hgq]
    have HGQ:=z_ (show wL.heap.size+1<gq/\W2.heap.size=gq+1 from ⟨by rw [hgq];exact HLL.out.2,by rw [hgq];exact HSZ2.out⟩)
    clear hgq
    obtain ⟨root',u,cs2,vc2,vf2,X2,hM2,hT2,hgt2,hmem2⟩:=HI2.out.ex
    have HM2:=z_ hM2
    have HT2:=z_ (And.intro hT2 hmem2)
    have HGT2:=z_ hgt2
    have HGA2:=z_ (show W2.heap[ga]? = some (.cells #[.pointer (some ⟨p,0,none⟩)] 23 (0,0)) from by
     have h1 : ¬O0 ga:=fun ho=>by
      rcases (HOO.out _).1 ho with h|h
      ·exact (HM.out.sp ga HSPS.out.2.2.1).2 h
      ·have:=HSZ3.out;have:=HZ.out;have:=HM.out.kept.1;omega
     have h2 : ¬(ga=p\/ga=ga+1):=by have:=HSZ3.out;omega
     refine (hM2.kept.2 ga (by have:=HSZ3.out;have:=HZ.out;have:=HM.out.kept.1;omega) h1).trans ?_
     exact blk_below ((HM.out.kept.2 ga (by have:=HSZ3.out;omega) h2).trans HGA.out) HWL.out)
    clear hM2 hT2 hgt2 hmem2
    have ka:=blk_cell HGA2.out 0
    have kt:=blk_cell HGT2.out 0
    have m0:=blk_cell HN2.out 0
    have m1:=blk_cell HN2.out 1
    have m2:=blk_cell HN2.out 2
    simp at ka kt m0 m1 m2
    have hXW : ∀k,XB k->k<wL.heap.size->W2.heap[k]? = wL.heap[k]? := fun k hk hl=>HM2.out.kept.2 k hl (HXS2.out k hk).2.1
    have HPRE:=z_ (show InsPre W2 p p 8 65536 vc2 vf2 X2 cs2 B1 B2 d1 d2 q.f0 q.f1 from by
     have ho:=HK.out.2.2.2.2 q HQM.out
     exact ⟨HM2.out.m,HM2.out.tree.g.ok,fun n hn=>(HM2.out.tree.g n hn).h9,Kd.V_mono (Kd.V_step (show BX wL XB _ _ from ⟨_,_,rfl,HQF.out.1,Kd.F_mono HQF.out.2.1 (fun k hk=>hk.1)⟩) hXW) HM2.out.x0,Kd.V_mono (Kd.V_step (show BX wL XB _ _ from ⟨_,_,rfl,HQF.out.2.2.1,Kd.F_mono HQF.out.2.2.2 (fun k hk=>hk.1)⟩) hXW) HM2.out.x0,ho.1,ho.2.2.1,by omega,by omega,fun W' hW=>HGLO.out W' (HML.out.low.trans (HM2.out.low.trans hW))⟩)
    clear hXW
    gi_wp2_with fail
    clear ka kt m0 m1 m2
    refine ⟨trivial,(CallsIn.inRound l (callsIn_wide.2 (insert_calls HPRE.out root' q.f2 u HM2.out.tree))).mono ?_⟩
    rintro e W3 ⟨i,er,cs3,hout,rfl,hA3⟩
    have hlv:(leavesO u).length<=la.length:=by
     have h1:=nodup_len (leavesO u) _ (leavesO_apart HM2.out.tree.good) (fun y hy=>(HT2.out.2 y).1 hy)
     rw [List.length_map,List.length_drop] at h1
     omega
    have ho:=HK.out.2.2.2.2 q HQM.out
    obtain ⟨rfl,t',k1,k2,k3,k4⟩:=order_step HM2.out.tree ho.1 ho.2.1 ho.2.2.1 ho.2.2.2.1 ho.2.2.2.2 HM2.out.used (by have:=HPL.out;have:=HK.out;have:=HFL.out.1;omega) (by have:=HK.out;have:=HFL.out.1;omega) HM2.out.rt hout
    obtain ⟨vc3,vf3,X3,m1,m2,m3,m4,m5,m6⟩:=HM2.out.m.next hA3
    have hsp2 : ∀k,S2 k->k<W2.heap.size:=fun k hk=>by
     have h1:=HGQ.out
     have h2:=HZ.out
     rcases (HSS.out k).1 hk with h|h
     ·have:=HSPS.out.1 k h
      have:=HM.out.kept.1
      omega
     ·omega
    have hs3:S2 (ga+1):=(HSS.out _).2 (.inl HSPS.out.2.1)
    have hs4:S2 gt:=(HSS.out _).2 (.inr (.inl rfl))
    have HM3:=z_ (HM2.out.ins hsp2 hs3 k1 k3 (fun h=>by cases h) HM2.out.kept.1 m1 m2 m3 m4 m5 m6)
    have HGT3:=z_ ((m5.2 gt (hsp2 gt hs4) (HM2.out.sp gt hs4).2).trans HGT2.out)
    have HT3:=z_ (show TreeIn 8 cs3 root t/\∀y,y∈t'.leaves↔y∈(la.drop (la.length-(pre.length+1))).map lfP from by
     refine ⟨⟨?_,HT2.out.1.good,k1.g⟩,fun y=>?_⟩
     ·cases t with
      | none=>
        have hr:=HM.out.rt rfl
        show nodeAt cs3 root=none
        rw [hr]
        exact nodeAt_neg cs3 (-1) (by omega)
      | some t=>exact IsT.ext k2 HT2.out.1.at_
     ·have hap:(q :: la.drop (la.length-pre.length)).Pairwise (fun x y=>x.f0≠y.f0):=by
       rw [<-HDR.out]
       exact HK.out.2.2.2.1.apart.sublist (List.drop_sublist _ _)
      rw [k4,HDR.out,List.map_cons,List.mem_cons,HT2.out.2]
      constructor
      ·rintro (h|⟨h,_⟩)
       ·exact .inl h
       ·exact .inr h
      ·rintro (h|h)
       ·exact .inl h
       ·refine .inr ⟨h,?_⟩
        obtain ⟨z,hz,rfl⟩:=List.mem_map.1 h
        exact fun e=>(List.pairwise_cons.1 hap).1 z hz e.symm)
    have HK3:=z_ (show W2.heap.size<=W3.heap.size/\∀k,k=wL.heap.size\/k=wL.heap.size+1->W3.heap[k]? = W2.heap[k]? from ⟨m5.1,fun k hk=>m5.2 k (hsp2 k ((HSS.out k).2 (.inr (.inr (.inr hk))))) (HM2.out.sp k ((HSS.out k).2 (.inr (.inr (.inr hk))))).2⟩)
    clear hlv ho hout hA3 k1 k2 k3 k4 m1 m2 m3 m4 m5 m6 hsp2
    have HS3:=z_ (And.intro hs3 hs4)
    clear hs3 hs4
    have kt:=blk_cell HGT3.out 0
    have kf:=blk_frozen HGT3.out 0
    have ke:=blk_cell HM3.out.err 0
    have kg:=blk_frozen HM3.out.err 0
    simp at kt kf ke kg
    have hne:gt≠ga+1:=by have:=HSZ3.out;have:=HZ.out;have:=HM.out.kept.1;omega
    have hne2:ga+1≠gt:=hne.symm
    gi_wp2_with fail
    obtain ⟨W4,hW4⟩ : ∃x,x=W3.setCell ⟨gt,0,none⟩ (.int .i64 i):=⟨_,rfl⟩
    obtain ⟨W5,hW5⟩ : ∃x,x=W4.setCell ⟨ga+1,0,none⟩ (.int .i64 0):=⟨_,rfl⟩
    rw [<-hW4,<-hW5]
    have hk4 : ∀k,k≠gt->W4.heap[k]? = W3.heap[k]? := fun k hk=>by rw [hW4];exact Below.heap_setCell _ ⟨gt,0,none⟩ _ k hk
    have hk5 : ∀k,k≠ga+1->W5.heap[k]? = W4.heap[k]? := fun k hk=>by rw [hW5];exact Below.heap_setCell _ ⟨ga+1,0,none⟩ _ k hk
    have hz5:W3.heap.size=W5.heap.size:=by rw [hW5,hW4];simp
    have hpz:p<=gt/\p<=ga+1:=by have:=HSZ3.out;have:=HZ.out;have:=HM.out.kept.1;omega
    have hg5:W5.heap[gt]? = some (.cells #[.int .i64 i] 3 (0,0)):=(hk5 gt hne).trans (by rw [hW4];exact blk_set HGT3.out 0 _)
    have he5:W5.heap[ga+1]? = some (.cells #[.int .i64 0] 24 (0,0)):=by
     have h4:W4.heap[ga+1]? = some (.cells #[.int .i64 0] 24 (0,0)):=(hk4 _ hne2).trans HM3.out.err
     rw [hW5]
     exact blk_set h4 0 _
    have hl5:Below p wL W5:=by
     rw [hW5,hW4]
     exact Below.setCell (Below.setCell HM3.out.low (by exact hpz.1) _) (by exact hpz.2) _
    refine ⟨fun k hk=>?_,?_⟩
    ·have h1:=HZ.out
     have h2:=HSZ3.out
     have h3:=HM.out.kept.1
     exact (hk5 k (by omega)).trans ((hk4 k (by omega)).trans (HK3.out.2 k hk))
    ·show OrdJ wL p (ga+1) gt S2 O0 XB la root t (pre++[_]).length W5
     rw [List.length_append]
     refine ⟨i,some t',cs3,vc3,vf3,X3,HM3.out.touch (W':=W5) (fun k=>k=gt\/k=ga+1) (Nat.le_of_eq hz5) (fun k _ hk=>(hk5 k (fun h=>hk (.inr h))).trans (hk4 k (fun h=>hk (.inl h)))) (fun k hk=>?_) (fun k hk=>(HXS2.out k hk).1) (fun k _ he=>by simp [Value.ownBlock] at he) hl5 he5,HT3.out.1,hg5,HT3.out.2⟩
     rcases hk with rfl|rfl
     ·exact ⟨HS3.out.2,.inl ((HOO.out _).2 (.inr (.inr rfl)))⟩
     ·exact ⟨HS3.out.1,.inl ((HOO.out _).2 (.inr (.inl rfl)))⟩
   case hdone=>
    intro W hI hdf
    have hI':OrdJ wL p (ga+1) gt S2 O0 XB la root t (backs rows rows.length).length W:=hI
    rw [backs_len,HRL.out] at hI'
    obtain ⟨two,u,cs2,vc2,vf2,X2,hM2,hT2,hgt2,hmem2⟩:=hI'.ex
    rw [Nat.sub_self,List.drop_zero] at hmem2
    have HM2:=z_ hM2
    have HT2:=z_ hT2
    have HGT2:=z_ hgt2
    have HME:=z_ hmem2
    have HDF:=z_ hdf
    have HSA:=z_ (order_same HM.out.tree.good HM2.out.tree.good HK.out.2.2.2.1 hmem2)
    have HGA2:=z_ (show W.heap[ga]? = some (.cells #[.pointer (some ⟨p,0,none⟩)] 23 (0,0)) from by
     have h1 : ¬O0 ga:=fun ho=>by
      rcases (HOO.out _).1 ho with h|h
      ·exact (HM.out.sp ga HSPS.out.2.2.1).2 h
      ·have:=HSZ3.out;have:=HZ.out;have:=HM.out.kept.1;omega
     have h2 : ¬(ga=p\/ga=ga+1):=by have:=HSZ3.out;omega
     refine (hM2.kept.2 ga (by have:=HSZ3.out;have:=HZ.out;have:=HM.out.kept.1;omega) h1).trans ?_
     exact blk_below ((HM.out.kept.2 ga (by have:=HSZ3.out;omega) h2).trans HGA.out) HWL.out)
    have HPW:=z_ (show Below p w3 W from HML.out.low.trans HM2.out.low)
    clear hI hI' hdf hM2 hT2 hgt2 hmem2
    have ka:=blk_cell HGA2.out 0
    have kt:=blk_cell HGT2.out 0
    simp at ka kt
    go_wp2_with fail
    refine (items_calls HM2.out.m two u HM2.out.tree (by rw [HSA.out.1,HK.out.2.2.2.1.len HM.out.tree.good];have:=HK.out;have:=HFL.out.1;omega)).mono ?_
    rintro e w4 ⟨vI,rfl,hNI,hbI⟩
    obtain ⟨AI,cI,rfl⟩:=Kd.N_slice hNI
    obtain ⟨its,hits⟩ : ∃x,x=(leavesO u).map sOf:=⟨_,rfl⟩
    rw [<-hits] at hNI
    rw [<-hits]
    have HIT:=z_ hits
    have HNI:=z_ hNI
    have HB4:=z_ hbI
    have HNL:=z_ (show its.length=la.length/\la.length<=30 from by
     rw [hits,List.length_map,HSA.out.1,HK.out.2.2.2.1.len HM.out.tree.good]
     have:=HK.out
     have:=HFL.out.1
     exact ⟨rfl,by omega⟩)
    clear hits hNI hbI ka kt
    obtain ⟨n,hn⟩ : ∃n,n=la.length:=⟨_,rfl⟩
    rw [HNL.out.1,<-hn]
    have HNE:=z_ hn
    clear hn
    go_wp2_with fail
    go_loopg [14] (n+1) (fun kq v14 wk=>∃i:Nat,v14 = .int .i64 (i:Int)/\Aside0 (kq+i=n+2/\1<=i)/\Aside0 (Below W.heap.size W wk/\Below w4.heap.size w4 wk))
    case atStart=>exact ⟨1,rfl,⟨by omega,Nat.le_refl _⟩,⟨HB4.out,Below.refl _ _⟩⟩
    case round=>
     obtain ⟨i,rfl,HIK,HBK⟩:=hrel
     by_cases hlt2:i<n
     ·have hd:decide ((i:Int)<(n:Int))=true:=by simp;omega
      have hd2:decide (0<=(i:Int))=true:=by simp
      obtain ⟨k1,rfl⟩ : ∃k1,gk=k1+1:=⟨gk-1,by have:=HIK.out;omega⟩
      obtain ⟨m,rfl⟩ : ∃m,i=m+1:=⟨i-1,by have:=HIK.out;omega⟩
      obtain ⟨i,hi⟩ : ∃i,i=m+1:=⟨_,rfl⟩
      rw [<-hi] at HIK hlt2 hd hd2
      rw [<-hi]
      have hw1:wrap64 ((i:Int)-1)=(m:Int):=by rw [wrap64_id _ (by have:=HNL.out;have:=HNE.out;omega)];omega
      have hw2:wrap64 ((i:Int)+1)=((i+1:Nat):Int):=by rw [wrap64_id _ (by have:=HNL.out;have:=HNE.out;omega)];omega
      have hd3:decide ((m:Int)<(n:Int))=true:=by simp;omega
      have hd4:decide (0<=(m:Int))=true:=by simp
      have hp1:(0:Int)<=(m:Int):=by omega
      have hp2:(m:Int)<(n:Int):=by omega
      have hp3:(0:Int)<=(i:Int):=by omega
      have hp4:(i:Int)<(n:Int):=by omega
      have hNk:=Kd.N_below HNI.out HBK.out.2
      have hil:i<its.length:=by have:=HNL.out;have:=HNE.out;omega
      have hln:its.length=n:=by rw [HNL.out.1,HNE.out]
      obtain ⟨gi,capi,he,_,hgi,_⟩:=Kd.N_form hNk (by omega)
      have HGI:=z_ hgi
      injection he with e1 e2 e3
      subst e1 e3
      obtain ⟨ca,hca,hFa,hxa,_⟩:=Kd.N_elem hNk z51 (m:Int) (by omega) (by omega)
      obtain ⟨cb,hcb,hFb,hxb,_⟩:=Kd.N_elem hNk z51 (i:Int) (by omega) (by omega)
      obtain ⟨xa,hxa'⟩ : ∃x,x=its.getD ((m:Int)).toNat z51:=⟨_,rfl⟩
      obtain ⟨xb,hxb'⟩ : ∃x,x=its.getD ((i:Int)).toNat z51:=⟨_,rfl⟩
      rw [<-hxa'] at hFa
      rw [<-hxb'] at hFb
      have HLS:=z_ (show IdOk xa.f0/\IdOk xb.f0/\lessB (keyB xa.f0) (keyB xb.f0) from by
       have hlu:i<(leavesO u).length:=by rw [HIT.out,List.length_map] at hil;exact hil
       have h1:=order_items HM2.out.tree.good i (by omega) hlu
       have e1:xa.f0=((leavesO u)[i-1]'(by omega)).id:=by
        rw [hxa',Int.toNat_natCast,HIT.out,List.getD_eq_getElem?_getD,List.getElem?_map,List.getElem?_eq_getElem (show m<(leavesO u).length by omega)]
        simp only [hi,Nat.add_sub_cancel]
        rfl
       have e2:xb.f0=((leavesO u)[i]'hlu).id:=by
        rw [hxb',Int.toNat_natCast,HIT.out,List.getD_eq_getElem?_getD,List.getElem?_map,List.getElem?_eq_getElem hlu]
        rfl
       rw [e1,e2]
       exact h1)
      obtain ⟨A1,a1,A2,a2,rfl,l1,F1,_,_⟩:=k51_openF hFa
      obtain ⟨B1,b1,B2,b2,rfl,l2,F2,_,_⟩:=k51_openF hFb
      have x1:=hxa 0 _ rfl
      have x2:=hxb 0 _ rfl
      simp only [show k51.sz=3 from rfl,Int.toNat_natCast,Nat.add_zero] at x1 x2
      have HCI:=z_ (And.intro l1 (And.intro (Kd.F_now F1) (And.intro l2 (Kd.F_now F2))))
      have HX:=z_ (And.intro x1 x2)
      clear hca hFa hxa hcb hFb hxb hxa' hxb' l1 F1 l2 F2 hNk hil hln hgi hi
      go_wp2_with fail
      refine start_ (n:=13) (S:=fun w'=>w'.cell? ⟨gi,m*3,none⟩=some (.slice A1 xa.f0.length a1)/\w'.cell? ⟨gi,i*3,none⟩=some (.slice B1 xb.f0.length b1)) (ds:=[]) (bt_ 13 0) (by kernel_rfl) rfl rfl ?hs0 (fun hHeld=>?_)
      case hs0=>exact ⟨HX.out.1,HX.out.2⟩
      refine with_tabW ord29_tab ord29_bits (fun HT_ HW_=>?_)
      have HD5:=z_ (show Below wr.heap.size wr wr.drew from below_drew (Below.refl _ _))
      generalize hgw:wr.drew=w5 at HD5 hHeld ⊢
      clear hgw x1 x2
      refine pure_ (i:=0) (N:=some 95) (v:=?_) (a':=?_) (bt_ 13 1) rfl rfl (any_of HT_.out (by kernel_rfl)) (fun _ _ _ h=>h) (Or.inl ⟨by rfl,?_⟩) ?_ ?_
      rotate_left
      ·intro w'
       go_simp
       with_reducible rfl
      rotate_left
      ·simp only [pq_]
       rfl
      refine pure_ (i:=1) (N:=some 96) (v:=?_) (a':=?_) (bt_ 13 3) rfl rfl (any_of HT_.out (by kernel_rfl)) (fun _ _ _ h=>h) (Or.inl ⟨by rfl,?_⟩) ?_ ?_
      rotate_left
      ·intro w'
       go_simp
       with_reducible rfl
      rotate_left
      ·simp only [pq_]
       rfl
      refine pure_ (i:=2) (N:=some 97) (v:=?_) (a':=?_) (bt_ 13 7) rfl rfl (any_of HT_.out (by kernel_rfl)) (fun _ _ _ h=>h) (Or.inl ⟨by rfl,?_⟩) ?_ ?_
      rotate_left
      ·intro w'
       go_simp
       with_reducible rfl
      rotate_left
      ·simp only [pq_]
       rfl
      refine pure_ (i:=3) (N:=some 98) (v:=?_) (a':=?_) (bt_ 13 15) rfl rfl (any_of HT_.out (by kernel_rfl)) (fun _ _ _ h=>h) (Or.inl ⟨by rfl,?_⟩) ?_ ?_
      rotate_left
      ·intro w'
       go_simp
       with_reducible rfl
      rotate_left
      ·simp only [pq_]
       rfl
      refine pure_ (i:=4) (N:=some 99) (v:=?_) (a':=?_) (bt_ 13 31) rfl rfl (any_of HT_.out (by kernel_rfl)) (fun _ _ _ h=>h) (Or.inl ⟨by rfl,?_⟩) ?_ ?_
      rotate_left
      ·intro w'
       go_simp
       with_reducible rfl
      rotate_left
      ·simp only [pq_]
       rfl
      refine take_ (i:=5) (N:=some 100) (v:=?_) (a':=?_) (bt_ 13 63) rfl rfl (take_ofW HT_.out HW_.out (by kernel_rfl)) (fun _ _ _ h=>h) (Or.inl ⟨by rfl,?_⟩) hHeld ?_ ?_
      rotate_left
      ·rintro w' s0
       have x1:=s0.1
       go_simp
       with_reducible rfl
      rotate_left
      ·simp only [pq_]
       rfl
      refine pure_ (i:=6) (N:=some 101) (v:=?_) (a':=?_) (bt_ 13 127) rfl rfl (any_of HT_.out (by kernel_rfl)) (fun _ _ _ h=>h) (Or.inl ⟨by rfl,?_⟩) ?_ ?_
      rotate_left
      ·intro w'
       go_simp
       with_reducible rfl
      rotate_left
      ·simp only [pq_]
       rfl
      refine pure_ (i:=7) (N:=some 102) (v:=?_) (a':=?_) (bt_ 13 255) rfl rfl (any_of HT_.out (by kernel_rfl)) (fun _ _ _ h=>h) (Or.inl ⟨by rfl,?_⟩) ?_ ?_
      rotate_left
      ·intro w'
       go_simp
       with_reducible rfl
      rotate_left
      ·simp only [pq_]
       rfl
      refine pure_ (i:=8) (N:=some 103) (v:=?_) (a':=?_) (bt_ 13 511) rfl rfl (any_of HT_.out (by kernel_rfl)) (fun _ _ _ h=>h) (Or.inl ⟨by rfl,?_⟩) ?_ ?_
      rotate_left
      ·intro w'
       go_simp
       with_reducible rfl
      rotate_left
      ·simp only [pq_]
       rfl
      refine pure_ (i:=9) (N:=some 104) (v:=?_) (a':=?_) (bt_ 13 1023) rfl rfl (any_of HT_.out (by kernel_rfl)) (fun _ _ _ h=>h) (Or.inl ⟨by rfl,?_⟩) ?_ ?_
      rotate_left
      ·intro w'
       go_simp
       with_reducible rfl
      rotate_left
      ·simp only [pq_]
       rfl
      refine take_ (i:=10) (N:=some 105) (v:=?_) (a':=?_) (bt_ 13 2047) rfl rfl (take_ofW HT_.out HW_.out (by kernel_rfl)) (fun _ _ _ h=>h) (Or.inl ⟨by rfl,?_⟩) hHeld ?_ ?_
      rotate_left
      ·rintro w' s0
       have x2:=s0.2
       go_simp
       with_reducible rfl
      rotate_left
      ·simp only [pq_]
       rfl
      refine one_ (i:=11) (N:=some 106) (bt_ 13 4095) rfl rfl (one_of HT_.out (by kernel_rfl)) (by decide) (fun K hK=>?_)
      refine goes_ Tryd.func32 (by kernel_rfl) rfl #[.slice A1 xa.f0.length a1,.slice B1 xb.f0.length b1] (by rfl) rfl rfl (by (try simp only [List.map_toArray,List.map_cons,List.map_nil]);first|done|rfl) ?_
      with_reducible refine (order_calls HLS.out.1 HLS.out.2.1 HLS.out.2.2 A1 a1 B1 b1 w5 (Kd.C_below HCI.out.2.1 HD5.out) HCI.out.1 (Kd.C_below HCI.out.2.2.2 HD5.out) HCI.out.2.2.1).mono ?_
      rintro e w6 ⟨rfl,hb6⟩
      have HB6:=z_ (below_step HD5.out hb6)
      clear hb6
      refine ⟨_,rfl,?_⟩
      refine hK.out _ _ ⟨(HB6.out.cell HGI.out).trans HX.out.1,(HB6.out.cell HGI.out).trans HX.out.2⟩ (fun hHeld=>?_)
      clear hK K
      refine norm_ (a':=?_) ?_ ?_
      rotate_left
      ·show Act.put _ (some 106) _=_
       simp only [pq_]
       rfl
      refine pure_ (i:=12) (N:=some 107) (v:=?_) (a':=?_) (bt_ 13 8191) rfl rfl (any_of HT_.out (by kernel_rfl)) (fun _ _ _ h=>h) (Or.inl ⟨by rfl,?_⟩) ?_ ?_
      rotate_left
      ·intro w'
       go_simp
       with_reducible rfl
      rotate_left
      ·simp only [pq_]
       rfl
      refine done_ (done_of HT_.out (by kernel_rfl)) ?_
      go_wp2_with fail
      have hIK:=HIK.out
      go_roundg k1
      case measure=>omega
      case rel=>exact ⟨i+1,by first|rfl|rw [hw2],⟨by omega,by omega⟩,⟨below_step HBK.out.1 HB6.out,below_step HBK.out.2 HB6.out⟩⟩
     ·have hd:decide ((i:Int)<(n:Int))=false:=by simp;omega
      go_wp2_with fail
      have HGR:=z_ (show wr.heap[w.heap.size]? = some (.cells #[.bool false] 4 (0,0)) from by
       have h3:=HSZ3.out
       have h5:=HSZ.out
       have h6:=HE.out
       have h7:=HB2.out.size
       have h8:=HPW.out.size
       refine (HBK.out.1.block _ (by omega)).trans ((HPW.out.block _ (by omega)).trans ((HB3.out.block _ (by omega)).trans ((HB2.out.block _ (by omega)).trans ((HB1.out.block _ (by omega)).trans HG.out)))))
      have HGA5:=z_ (blk_below HGA2.out HBK.out.1)
      have HGT5:=z_ (blk_below HGT2.out HBK.out.1)
      have HTR:=z_ HT2.out
      have HLN:=z_ (show ∀i n,nodeAt cs2 i=some n->n.f9.length<=65535 from fun i n hn=>(HTR.out.g.ok.at i n hn).1.2.2.2)
      have HHS:=z_ (show hashAt 8 cs2 two=hashAt 8 cs2 root from by
       rcases HSA.out.2 with ⟨e1,e2⟩|⟨a,b,e1,e2,e3⟩
       ·rw [HM.out.rt e1,HM2.out.rt e2]
       ·have h1:=HTR.out.at_
        have h2:=HM2.out.tree.at_
        rw [e1] at h1
        rw [e2] at h2
        unfold hashAt
        rw [IsT.at h1,IsT.at h2]
        exact e3.symm)
      have hgw:p<=wr.heap.size:=by have:=(blkA HM2.out.m).lt;have:=HBK.out.1.size;omega
      have HGL:=z_ (show ∀W',Below wr.heap.size wr W'->GlobS W' from fun W' hW=>HGLO.out W' (HPW.out.trans ((HBK.out.1.mono (by have:=(blkA HM2.out.m).lt;omega)).trans (hW.mono hgw))))
      have HNT:=z_ (show ((leavesO t).map sOf)=its from by rw [HIT.out,HSA.out.1])
      have HPG:=z_ hgw
      clear hgw
      refine start_ (n:=25) (S:=fun w'=>w'.heap[ga]? = some (.cells #[.pointer (some ⟨p,0,none⟩)] 23 (0,0))/\w'.heap[gt]? = some (.cells #[.int .i64 two] 3 (0,0))/\w'.heap[w.heap.size]? = some (.cells #[.bool false] 4 (0,0))) (ds:=[24]) (bt_ 25 0) (by kernel_rfl) rfl rfl ?hs0 (fun hHeld=>?_)
      case hs0=>exact ⟨HGA5.out,HGT5.out,HGR.out⟩
      refine with_tabW ord31_tab ord31_bits (fun HT_ HW_=>?_)
      have HD5:=z_ (show Below wr.heap.size wr wr.drew from below_drew (Below.refl _ _))
      generalize hgw:wr.drew=w5 at HD5 hHeld ⊢
      clear hgw
      refine pure_ (i:=0) (N:=some 108) (v:=?_) (a':=?_) (bt_ 25 1) rfl rfl (any_of HT_.out (by kernel_rfl)) (fun _ _ _ h=>h) (Or.inl ⟨by rfl,?_⟩) ?_ ?_
      rotate_left
      ·intro w'
       go_simp
       with_reducible rfl
      rotate_left
      ·simp only [pq_]
       rfl
      refine pure_ (i:=1) (N:=some 109) (v:=?_) (a':=?_) (bt_ 25 3) rfl rfl (any_of HT_.out (by kernel_rfl)) (fun _ _ _ h=>h) (Or.inl ⟨by rfl,?_⟩) ?_ ?_
      rotate_left
      ·intro w'
       go_simp
       with_reducible rfl
      rotate_left
      ·simp only [pq_]
       rfl
      refine pure_ (i:=2) (N:=some 110) (v:=?_) (a':=?_) (bt_ 25 7) rfl rfl (any_of HT_.out (by kernel_rfl)) (fun _ _ _ h=>h) (Or.inl ⟨by rfl,?_⟩) ?_ ?_
      rotate_left
      ·intro w'
       go_simp
       with_reducible rfl
      rotate_left
      ·simp only [pq_]
       rfl
      refine pure_ (i:=3) (N:=some 111) (v:=?_) (a':=?_) (bt_ 25 15) rfl rfl (any_of HT_.out (by kernel_rfl)) (fun _ _ _ h=>h) (Or.inl ⟨by rfl,?_⟩) ?_ ?_
      rotate_left
      ·intro w'
       go_simp
       with_reducible rfl
      rotate_left
      ·simp only [pq_]
       rfl
      refine pure_ (i:=4) (N:=some 112) (v:=?_) (a':=?_) (bt_ 25 31) rfl rfl (any_of HT_.out (by kernel_rfl)) (fun _ _ _ h=>h) (Or.inl ⟨by rfl,?_⟩) ?_ ?_
      rotate_left
      ·intro w'
       go_simp
       with_reducible rfl
      rotate_left
      ·simp only [pq_]
       rfl
      refine pure_ (i:=5) (N:=some 113) (v:=?_) (a':=?_) (bt_ 25 63) rfl rfl (any_of HT_.out (by kernel_rfl)) (fun _ _ _ h=>h) (Or.inl ⟨by rfl,?_⟩) ?_ ?_
      rotate_left
      ·intro w'
       go_simp
       with_reducible rfl
      rotate_left
      ·simp only [pq_]
       rfl
      refine take_ (i:=6) (N:=some 114) (v:=?_) (a':=?_) (bt_ 25 127) rfl rfl (take_ofW HT_.out HW_.out (by kernel_rfl)) (fun _ _ _ h=>h) (Or.inl ⟨by rfl,?_⟩) hHeld ?_ ?_
      rotate_left
      ·rintro w' s0
       have ka:=blk_cell s0.1 0
       simp at ka
       go_simp
       with_reducible rfl
      rotate_left
      ·simp only [pq_]
       rfl
      refine pure_ (i:=7) (N:=some 115) (v:=?_) (a':=?_) (bt_ 25 255) rfl rfl (any_of HT_.out (by kernel_rfl)) (fun _ _ _ h=>h) (Or.inl ⟨by rfl,?_⟩) ?_ ?_
      rotate_left
      ·intro w'
       go_simp
       with_reducible rfl
      rotate_left
      ·simp only [pq_]
       rfl
      refine take_ (i:=9) (N:=some 117) (v:=?_) (a':=?_) (bt_ 25 767) rfl rfl (take_ofW HT_.out HW_.out (by kernel_rfl)) (fun _ _ _ h=>h) (Or.inl ⟨by rfl,?_⟩) hHeld ?_ ?_
      rotate_left
      ·rintro w' s0
       have ka:=blk_cell s0.1 0
       simp at ka
       go_simp
       with_reducible rfl
      rotate_left
      ·simp only [pq_]
       rfl
      refine take_ (i:=10) (N:=some 118) (v:=?_) (a':=?_) (bt_ 25 1791) rfl rfl (take_ofW HT_.out HW_.out (by kernel_rfl)) (fun _ _ _ h=>h) (Or.inl ⟨by rfl,?_⟩) hHeld ?_ ?_
      rotate_left
      ·rintro w' s0
       have kt:=blk_cell s0.2.1 0
       simp at kt
       go_simp
       with_reducible rfl
      rotate_left
      ·simp only [pq_]
       rfl
      refine one_ (i:=8) (N:=some 116) (bt_ 25 2047) rfl rfl (one_of HT_.out (by kernel_rfl)) (by decide) (fun K hK=>?_)
      refine goes_ Tryd.func33 (by kernel_rfl) rfl #[.pointer (some ⟨p,0,none⟩),.int .i64 root] (by rfl) rfl rfl (by (try simp only [List.map_toArray,List.map_cons,List.map_nil]);first|done|rfl) ?_
      with_reducible refine (hashA_calls (HM2.out.m.below (below_step HBK.out.1 HD5.out)) root (HLN.out root) (HGL.out _ HD5.out)).mono ?_
      rintro e w6 ⟨⟨vK,rfl,hH⟩,hb⟩
      obtain ⟨AK,cK,rfl,hcK,hFK⟩:=hH
      obtain ⟨hs,hhs⟩ : ∃x,x=hashAt 8 cs2 root:=⟨_,rfl⟩
      rw [<-hhs] at hcK hFK
      rw [<-hhs] at HHS
      rw [<-hhs]
      have HB6:=z_ (below_step HD5.out hb)
      have HK6:=z_ (And.intro hcK (Kd.F_now hFK))
      clear hb hcK hFK hhs
      refine ⟨_,rfl,?_⟩
      refine hK.out _ _ ⟨blk_below HGA5.out HB6.out,blk_below HGT5.out HB6.out,blk_below HGR.out HB6.out⟩ (fun hHeld=>?_)
      clear hK K
      refine norm_ (a':=?_) ?_ ?_
      rotate_left
      ·show Act.put _ (some 116) _=_
       simp only [pq_]
       rfl
      refine one_ (i:=11) (N:=some 119) (bt_ 25 4095) rfl rfl (one_of HT_.out (by kernel_rfl)) (by decide) (fun K hK=>?_)
      refine goes_ Tryd.func33 (by kernel_rfl) rfl #[.pointer (some ⟨p,0,none⟩),.int .i64 two] (by rfl) rfl rfl (by (try simp only [List.map_toArray,List.map_cons,List.map_nil]);first|done|rfl) ?_
      with_reducible refine (hashA_calls (HM2.out.m.below (below_step HBK.out.1 HB6.out)) two (HLN.out two) (HGL.out _ HB6.out)).mono ?_
      rintro e w7 ⟨⟨vK,rfl,hH⟩,hb⟩
      rw [HHS.out] at hH
      obtain ⟨AJ,cJ,rfl,hcJ,hFJ⟩:=hH
      have HB7:=z_ (below_step HB6.out hb)
      have HK7:=z_ (And.intro hcJ (And.intro (Kd.F_now hFJ) (Kd.C_below HK6.out.2 hb)))
      clear hb hcJ hFJ
      refine ⟨_,rfl,?_⟩
      refine hK.out _ _ ⟨blk_below HGA5.out HB7.out,blk_below HGT5.out HB7.out,blk_below HGR.out HB7.out⟩ (fun hHeld=>?_)
      clear hK K
      refine norm_ (a':=?_) ?_ ?_
      rotate_left
      ·show Act.put _ (some 119) _=_
       simp only [pq_]
       rfl
      refine one_ (i:=12) (N:=some 120) (bt_ 25 8191) rfl rfl (one_of HT_.out (by kernel_rfl)) (by decide) (fun K hK=>?_)
      refine goes_ Tryd.func29 (by kernel_rfl) rfl #[.slice AK hs.length cK,.slice AJ hs.length cJ] (by rfl) rfl rfl (by (try simp only [List.map_toArray,List.map_cons,List.map_nil]);first|done|rfl) ?_
      with_reducible refine (bytes_Equal.calls AK cK hs AJ cJ hs true w7 HK7.out.2.2 HK6.out.1 HK7.out.2.1 HK7.out.1 (equal_same hs)).mono ?_
      rintro e w8 ⟨rfl,hd⟩
      have HB8:=z_ (below_step HB7.out hd.below)
      clear hd
      refine ⟨_,rfl,?_⟩
      refine hK.out _ _ ⟨blk_below HGA5.out HB8.out,blk_below HGT5.out HB8.out,blk_below HGR.out HB8.out⟩ (fun hHeld=>?_)
      clear hK K
      refine norm_ (a':=?_) ?_ ?_
      rotate_left
      ·show Act.put _ (some 120) _=_
       simp only [pq_]
       rfl
      refine pure_ (i:=13) (N:=some 121) (v:=?_) (a':=?_) (bt_ 25 16383) rfl rfl (any_of HT_.out (by kernel_rfl)) (fun _ _ _ h=>h) (Or.inl ⟨by rfl,?_⟩) ?_ ?_
      rotate_left
      ·intro w'
       go_simp
       with_reducible rfl
      rotate_left
      ·simp only [pq_]
       rfl
      refine pure_ (i:=14) (N:=some 122) (v:=?_) (a':=?_) (bt_ 25 32767) rfl rfl (any_of HT_.out (by kernel_rfl)) (fun _ _ _ h=>h) (Or.inl ⟨by rfl,?_⟩) ?_ ?_
      rotate_left
      ·intro w'
       go_simp
       with_reducible rfl
      rotate_left
      ·simp only [pq_]
       rfl
      refine pure_ (i:=15) (N:=some 123) (v:=?_) (a':=?_) (bt_ 25 65535) rfl rfl (any_of HT_.out (by kernel_rfl)) (fun _ _ _ h=>h) (Or.inl ⟨by rfl,?_⟩) ?_ ?_
      rotate_left
      ·intro w'
       go_simp
       with_reducible rfl
      rotate_left
      ·simp only [pq_]
       rfl
      refine take_ (i:=16) (N:=some 124) (v:=?_) (a':=?_) (bt_ 25 131071) rfl rfl (take_ofW HT_.out HW_.out (by kernel_rfl)) (fun _ _ _ h=>h) (Or.inl ⟨by rfl,?_⟩) hHeld ?_ ?_
      rotate_left
      ·rintro w' s0
       have ka:=blk_cell s0.1 0
       simp at ka
       go_simp
       with_reducible rfl
      rotate_left
      ·simp only [pq_]
       rfl
      refine pure_ (i:=17) (N:=some 125) (v:=?_) (a':=?_) (bt_ 25 262143) rfl rfl (any_of HT_.out (by kernel_rfl)) (fun _ _ _ h=>h) (Or.inl ⟨by rfl,?_⟩) ?_ ?_
      rotate_left
      ·intro w'
       go_simp
       with_reducible rfl
      rotate_left
      ·simp only [pq_]
       rfl
      refine one_ (i:=18) (N:=some 126) (bt_ 25 524287) rfl rfl (one_of HT_.out (by kernel_rfl)) (by decide) (fun K hK=>?_)
      refine goes_ Tryd.func24 (by kernel_rfl) rfl #[.pointer (some ⟨p,0,none⟩),.int .i64 root] (by rfl) rfl rfl (by (try simp only [List.map_toArray,List.map_cons,List.map_nil]);first|done|rfl) ?_
      with_reducible refine (items_calls (HM2.out.m.below (below_step HBK.out.1 HB8.out)) root t HTR.out (by rw [HK.out.2.2.2.1.len HM.out.tree.good];have:=HNL.out;omega)).mono ?_
      rintro e w9 ⟨vN,rfl,hN,hb⟩
      rw [HNT.out] at hN
      obtain ⟨AN,cN,rfl⟩:=Kd.N_slice hN
      have hln:its.length=n:=by rw [HNL.out.1,HNE.out]
      have HB9:=z_ (below_step HB8.out hb)
      have HN9:=z_ (Kd.N_reads' hN)
      have HI9:=z_ (Kd.N_below HNI.out (below_step HBK.out.2 HB9.out))
      clear hb hN
      have HLN9:=z_ hln
      rw [hln]
      clear hln
      refine ⟨_,rfl,?_⟩
      refine hK.out _ _ ⟨blk_below HGA5.out HB9.out,blk_below HGT5.out HB9.out,blk_below HGR.out HB9.out⟩ (fun hHeld=>?_)
      clear hK K
      refine norm_ (a':=?_) ?_ ?_
      rotate_left
      ·show Act.put _ (some 126) _=_
       simp only [pq_]
       rfl
      refine one_ (i:=19) (N:=some 127) (bt_ 25 1048575) rfl rfl (one_of HT_.out (by kernel_rfl)) (by decide) (fun K hK=>?_)
      refine goes_ Tryd.func34 (by kernel_rfl) rfl #[.slice AI n cI,.slice AN n cN] (by rfl) rfl rfl (by (try simp only [List.map_toArray,List.map_cons,List.map_nil]);first|done|rfl) ?_
      with_reducible refine (show Calls Tryd.prog 34 #[.slice AI n cI,.slice AN n cN] w9 (fun e w'=>e = .returned (.bool true)/\Below w9.heap.size w9 w') from by have h:=annalsref10_SameItems.calls (its.length+1) AI cI its AN cN its true w9 (Kd.N_reads' HI9.out).2.2 (Kd.N_reads' HI9.out).2.1 HN9.out.2.2 HN9.out.2.1 (same_f its (by have:=HNL.out;omega));rw [HLN9.out] at h;exact h).mono ?_
      rintro e w10 ⟨rfl,hb⟩
      have HB10:=z_ (below_step HB9.out hb)
      clear hb
      refine ⟨_,rfl,?_⟩
      refine hK.out _ _ ⟨blk_below HGA5.out HB10.out,blk_below HGT5.out HB10.out,blk_below HGR.out HB10.out⟩ (fun hHeld=>?_)
      clear hK K
      refine norm_ (a':=?_) ?_ ?_
      rotate_left
      ·show Act.put _ (some 127) _=_
       simp only [pq_]
       rfl
      refine pure_ (i:=20) (N:=some 128) (v:=?_) (a':=?_) (bt_ 25 2097151) rfl rfl (any_of HT_.out (by kernel_rfl)) (fun _ _ _ h=>h) (Or.inl ⟨by rfl,?_⟩) ?_ ?_
      rotate_left
      ·intro w'
       go_simp
       with_reducible rfl
      rotate_left
      ·simp only [pq_]
       rfl
      refine pure_ (i:=21) (N:=some 129) (v:=?_) (a':=?_) (bt_ 25 4194303) rfl rfl (any_of HT_.out (by kernel_rfl)) (fun _ _ _ h=>h) (Or.inl ⟨by rfl,?_⟩) ?_ ?_
      rotate_left
      ·intro w'
       go_simp
       with_reducible rfl
      rotate_left
      ·simp only [pq_]
       rfl
      refine one_ (i:=22) (N:=some 130) (bt_ 25 8388607) rfl rfl (one_of HT_.out (by kernel_rfl)) (by decide) (fun K hK=>?_)
      refine goes_ Tryd.func25 (by kernel_rfl) rfl #[] (by rfl) rfl rfl (by (try simp only [List.map_toArray,List.map_cons,List.map_nil]);first|done|rfl) ?_
      with_reducible refine (awake10_calls w10 (HGL.out _ HB10.out)).mono ?_
      rintro e w11 ⟨rfl,hb⟩
      have HB11:=z_ (below_step HB10.out hb)
      clear hb
      refine ⟨_,rfl,?_⟩
      refine hK.out _ _ ⟨blk_below HGA5.out HB11.out,blk_below HGT5.out HB11.out,blk_below HGR.out HB11.out⟩ (fun hHeld=>?_)
      clear hK K
      refine norm_ (a':=?_) ?_ ?_
      rotate_left
      ·show Act.put _ (some 130) _=_
       simp only [pq_]
       rfl
      refine pure_ (i:=23) (N:=some 131) (v:=?_) (a':=?_) (bt_ 25 16777215) rfl rfl (any_of HT_.out (by kernel_rfl)) (fun _ _ _ h=>h) (Or.inl ⟨by rfl,?_⟩) ?_ ?_
      rotate_left
      ·intro w'
       go_simp
       with_reducible rfl
      rotate_left
      ·simp only [pq_]
       rfl
      refine last_ (i:=24) (N:=none) (bt_ 25 33554431) rfl rfl (one_of HT_.out (by kernel_rfl)) (by decide) (fun K hK=>?_)
      obtain ⟨w12,hw12⟩ : ∃x,x=w11.setCell ⟨w.heap.size,0,none⟩ (.bool true):=⟨_,rfl⟩
      have HW12:=z_ hw12
      have kr:=blk_cell (blk_below HGR.out HB11.out) 0
      have kf:=blk_frozen (blk_below HGR.out HB11.out) 0
      simp at kr kf
      refine skip_ (w1:=w12) (by rfl) rfl ?_ ?_
      ·(go_simp<;>first|rfl|(rw [hw12];rfl)|(subst hw12;rfl))
      clear kr kf hw12 hHeld
      refine hK.out _ _ ?_
      clear hK K
      refine done_ (done_of HT_.out (by kernel_rfl)) ?_
      go_wp2_with fail
      have HDD:=z_ (show w12.heap[wL.heap.size]? = some (.deferred (some [])) from by
       rw [HW12.out]
       have h3:=HSZ3.out
       have h4:=HZ.out
       have h5:=HM.out.kept.1
       have h6:=heap_some_lt HDF.out
       have h7:=HBK.out.1.size
       exact (Below.heap_setCell _ ⟨w.heap.size,0,none⟩ _ _ (by show wL.heap.size≠w.heap.size;omega)).trans ((HB11.out.block _ (by omega)).trans ((HBK.out.1.block _ h6).trans HDF.out)))
      have HFB:=z_ (show Below w.heap.size w w11 from HMZ.out _ (HPW.out.trans ((HBK.out.1.mono (by have:=(blkA HM2.out.m).lt;omega)).trans (HB11.out.mono HPG.out))))
      have HFR:=z_ (show w12.heap[w.heap.size]? = some (.cells #[.bool true] 4 (0,0)) from by
       rw [HW12.out]
       exact blk_set (blk_below HGR.out HB11.out) 0 _)
      have hnz:w.heap.size≠wL.heap.size:=by
       have h3:=HSZ3.out
       have h4:=HZ.out
       have h5:=HM.out.kept.1
       omega
      refine (show LeavesInM Fence.wide 5 Tryd.prog Tryd.f6 _ _ _ _ _ from ⟨by simp,.inl ⟨_,_,rfl,run_takeDeferred HDD.out,?_⟩⟩)
      have kz:=blk_cell (show (w12.putObj wL.heap.size (.deferred none)).heap[w.heap.size]? = some (.cells #[.bool true] 4 (0,0)) from (World.putObj_heap_other hnz).trans HFR.out) 0
      simp at kz
      refine ⟨.bool true,by simp [results,Tryd.results6,go_sem,kz],rfl,?_⟩
      rw [HW12.out]
      exact (Below.setCell HFB.out (by exact Nat.le_refl _) _).trans (putObj_below w.heap.size _ _ (by have:=HSZ3.out;have:=HZ.out;have:=HM.out.kept.1;omega))
end Go.Proofs.YtdeneoknjeegbaaDoor.P
end
section
namespace Go.Proofs.YtdeneoknjeegbaaDoor.P
open Go.RowKit YtdeneoknjeegbaaDoorW.PrintWords YtdeneoknjeegbaaDoorW.PrintLast YtdeneoknjeegbaaDoorW.PrintMore
theorem list_of {α:Type} (n:Nat) (R:Nat->α->Prop) (h : ∀i,i<n->∃a,R i a) : ∃xs:List α,xs.length=n/\∀i a,xs[i]? = some a->R i a:=by
 induction n with
 | zero=>exact ⟨[],rfl,fun i a hi=>by simp at hi⟩
 | succ n ih=>
   obtain ⟨xs,hl,hx⟩:=ih (fun i hi=>h i (by omega))
   obtain ⟨a,ha⟩:=h n (by omega)
   refine ⟨xs++[a],by simp [hl],fun i b hb=>?_⟩
   by_cases hi:i<n
   ·rw [List.getElem?_append_left (by omega)] at hb
    exact hx i b hb
   ·rw [List.getElem?_append_right (by omega)] at hb
    have h0:i-xs.length=0:=by
     have:=(List.getElem?_eq_some_iff.1 hb).1
     simp at this
     omega
    rw [h0] at hb
    have hin:i=n:=by omega
    subst hin
    have:a=b:=by simpa using hb
    subst this
    exact ha
theorem weightsAll_mem {H:Type} {P:Program} {e:TypeId} {l:List (DataW H)} {d:DataW H} (hd:d∈l) {n:Nat} (hn:n∈d.weights P e):n∈DataW.weightsAll P e l:=by
 induction l with
 | nil=>simp at hd
 | cons a l ih=>
   simp only [DataW.weightsAll,List.mem_append]
   rcases List.mem_cons.1 hd with rfl|hd
   ·exact .inl hn
   ·exact .inr (ih hd)
structure Opens (P:Program) (t:Nat) {α:Type} (d:Kd α) (wf:α->Prop):Prop where
 size:P.cellsOf t=d.sz
 get : ∀ {H:Type} {enc:TypeId×Value->H} {w:World} {base:Nat} {spare:Nat->Bool} {held:Bool} {fuel:Nat} {cs:List Value} {x:DataW H×List MemPlace},
  DataW.trod enc P w base spare held fuel t cs=some x->(∀n∈x.1.weights P t,n<=reachBytes)->∃a,d.K w a cs/\wf a
theorem Opens.imp {P:Program} {t:Nat} {α:Type} {d:Kd α} {wf wf':α->Prop} (h:Opens P t d wf) (hi : ∀a,wf a->wf' a):Opens P t d wf':=
 ⟨h.size,fun h1 h2=>by
  obtain ⟨a,h3,h4⟩:=h.get h1 h2
  exact ⟨a,h3,hi a h4⟩⟩
theorem Opens.int {P:Program} {t:Nat} {k:IntKind} (hu:P.underlying t=some (.int k)) (hc:P.cellsOf t=1):Opens P t (Kd.int k) (fun n=>(Lit.int k n).wf=true):=
 ⟨hc,fun h _=>by
  obtain ⟨n,rfl,_,hw⟩:=DataW.trod_int hu h
  exact ⟨n,rfl,hw⟩⟩
theorem Opens.bool {P:Program} {t:Nat} (hu:P.underlying t=some .bool) (hc:P.cellsOf t=1):Opens P t Kd.bool (fun _=>True):=
 ⟨hc,fun h _=>by
  obtain ⟨n,rfl,_⟩:=DataW.trod_bool hu h
  exact ⟨n,rfl,trivial⟩⟩
theorem Opens.string {P:Program} {t:Nat} (hu:P.underlying t=some .string) (hc:P.cellsOf t=1):Opens P t Kd.string (fun s=>s.size<=reachBytes):=
 ⟨hc,fun h hw=>by
  obtain ⟨s,rfl,rfl,_⟩:=DataW.trod_string hu h
  exact ⟨s,rfl,by simpa [DataW.weights] using hw⟩⟩
theorem Opens.slice {P:Program} {t e:Nat} {α:Type} {d:Kd α} {wf:α->Prop} (hu:P.underlying t=some (.slice e)) (hc:P.cellsOf t=1) (he:Opens P e d wf):
 Opens P t (Kd.slice e d) (fun xs=>xs.length*P.bytesOf e<=reachBytes/\∀a,a∈xs->wf a):=by
 refine ⟨hc,fun {H enc w base spare held fuel cs x} h hw=>?_⟩
 rcases DataW.trod_slice hu h with ⟨rfl,rfl⟩|⟨ad,len,cap,elems,rest,n,_,rfl,rfl,hb,hl,hm,hlen,hel,hsp,hns⟩
 ·exact ⟨[],⟨none,0,rfl,Nat.le_refl _,Kd.C_nil d w⟩,by simp,by simp⟩
 ·have hwa : ∀d0∈elems.map (·.1),∀m∈DataW.weights P e d0,m<=reachBytes:=fun d0 hd0 m hm0=>hw m (by
   simp only [DataW.weights,hu,List.mem_cons,List.mem_append]
   exact .inr (.inl (weightsAll_mem hd0 hm0)))
  have hsz:(elems.length+rest.length)*P.bytesOf e<=reachBytes:=hw _ (by simp [DataW.weights,hu])
  obtain ⟨xs,hxl,hx⟩:=list_of len (fun i a=>wf a/\∃c,c.length=d.sz/\d.K w a c/\∀j u,c[j]? = some u->w.cell? (ad.add (i*d.sz+j))=some u) (fun i hi=>by
   have h1:=hel i hi
   have hi':i<elems.length:=by omega
   rw [List.getElem?_eq_getElem hi',Option.bind_eq_some_iff] at h1
   obtain ⟨c,hc1,hc2⟩:=h1
   obtain ⟨_,hlc,hcell⟩:=World.cells?_some hc1
   obtain ⟨a,hK,hwf⟩:=he.get hc2 (fun m hm0=>hwa _ (List.mem_map.2 ⟨_,List.getElem_mem hi',rfl⟩) m hm0)
   refine ⟨a,hwf,c,d.K_len hK,hK,fun j u hj=>?_⟩
   have hj':j<c.length:=(List.getElem?_eq_some_iff.1 hj).1
   have h2:=hcell j (by omega)
   rw [hj] at h2
   rw [<-h2,he.size]
   congr 1
   unfold Addr.add
   by_cases h3:i*d.sz=0<;>by_cases h4:j=0<;>simp [h3,h4,Nat.add_assoc])
  refine ⟨xs,⟨some ad,cap,by rw [hxl],by omega,⟨rfl,by unfold maxLen at hm;omega,fun _=>⟨ad,rfl,fun j p hj=>?_⟩⟩⟩,?_,fun a ha=>?_⟩
  ·obtain ⟨_,c,h1,h2,h3⟩:=hx j p hj
   exact ⟨c,h1,h2,h3⟩
  ·rw [hxl]
   refine Nat.le_trans (Nat.mul_le_mul_right _ ?_) hsz
   omega
  ·obtain ⟨i,hi⟩:=List.getElem?_of_mem ha
   exact (hx i a hi).1
structure OpensF (P:Program) (fs:List Field) (off:Nat) {α:Type} (d:Kd α) (wf:α->Prop):Prop where
 get : ∀ {H:Type} {enc:TypeId×Value->H} {w:World} {base:Nat} {spare:Nat->Bool} {held:Bool} {fuel:Nat} {cs:List Value} {xs:List (DataW H×List MemPlace)},
  cs.length=off+d.sz->xs.length=fs.length->(∀(i:Nat) (f:Field),fs[i]? = some f->DataW.trod enc P w base spare held fuel f.type ((cs.drop f.offset).take (P.cellsOf f.type))=xs[i]?)->
  (∀n∈DataW.weightsEach P (fs.map (·.type)) (xs.map (·.1)),n<=reachBytes)->∃a,d.K w a (cs.drop off)/\wf a
theorem OpensF.one {P:Program} {f:Field} {α:Type} {d:Kd α} {wf:α->Prop} {t off:Nat} (ht:f.type=t) (ho:f.offset=off) (h:Opens P t d wf):OpensF P [f] off d wf:=by
 subst ht
 subst ho
 refine ⟨fun {H enc w base spare held fuel cs xs} hl hxl hx hw=>?_⟩
 match xs,hxl with
 | [x],_=>
   have h1:=hx 0 f rfl
   rw [List.take_of_length_le (by rw [List.length_drop,h.size];omega)] at h1
   exact h.get h1 (fun n hn=>hw n (by simp only [List.map_cons,List.map_nil,DataW.weightsEach,List.mem_append];exact .inl hn))
theorem OpensF.cons {P:Program} {f:Field} {fs:List Field} {α β:Type} {d:Kd α} {d':Kd β} {wf:α->Prop} {wf':β->Prop} {t off off':Nat} (ht:f.type=t) (ho:f.offset=off) (h:Opens P t d wf)
 (ho':off+d.sz=off') (hr:OpensF P fs off' d' wf'):OpensF P (f :: fs) off (Kd.pair d d') (fun x=>wf x.1/\wf' x.2):=by
 subst ht
 subst ho
 subst ho'
 refine ⟨fun {H enc w base spare held fuel cs xs} hl hxl hx hw=>?_⟩
 match xs,hxl with
 | x :: xs,hxl=>
   have hl':cs.length=f.offset+(d.sz+d'.sz):=hl
   have h1:=hx 0 f rfl
   obtain ⟨a,ha,hwa⟩:=h.get h1 (fun n hn=>hw n (by simp only [List.map_cons,DataW.weightsEach,List.mem_append];exact .inl hn))
   obtain ⟨b,hb,hwb⟩:=hr.get (by rw [hl'];omega) (by simpa using hxl) (fun i g hg=>by simpa using hx (i+1) g (by simpa using hg)) (fun n hn=>hw n (by simp only [List.map_cons,DataW.weightsEach,List.mem_append];exact .inr hn))
   refine ⟨(a,b),⟨_,_,?_,ha,hb⟩,hwa,hwb⟩
   rw [h.size]
   have:=List.take_append_drop d.sz (cs.drop f.offset)
   rw [List.drop_drop] at this
   exact this.symm
theorem Opens.struct {P:Program} {t:Nat} {fs:Array Field} {α:Type} {d:Kd α} {wf:α->Prop} (hu:P.underlying t=some (.struct fs)) (hc:P.cellsOf t=d.sz) (h:OpensF P fs.toList 0 d wf):Opens P t d wf:=by
 refine ⟨hc,fun {H enc w base spare held fuel cs x} h1 hw=>?_⟩
 obtain ⟨xs,n,_,rfl,hl,hxl,hx⟩:=DataW.trod_struct hu h1
 have:=h.get (cs:=cs) (by rw [hl,hc];omega) (by simpa using hxl) (fun i f hf=>hx i f (by simpa using hf)) (fun n hn=>hw n (by simp only [DataW.weights,hu];exact hn))
 simpa using this
theorem Opens.iso {P:Program} {t:Nat} {α β:Type} {d:Kd α} {wf:α->Prop} (h:Opens P t d wf) (f:β->α) (g:α->β) (hfg : ∀a,f (g a)=a):Opens P t (Kd.iso d f) (fun b=>wf (f b)):=
 ⟨h.size,fun h1 hw=>by
  obtain ⟨a,ha,hwa⟩:=h.get h1 hw
  exact ⟨g a,by show d.K _ (f (g a)) _;rw [hfg];exact ha,by show wf (f (g a));rw [hfg];exact hwa⟩⟩
theorem Opens.param {P:Program} {t e:Nat} {α:Type} {d:Kd α} {wf:List α->Prop} (ho:Opens P t (Kd.slice e d) wf) {H:Type} {enc:TypeId×Value->H} {w:World} {base:Nat} {spare:Nat->Bool} {held:Bool} {fuel:Nat}
 {A:Option Addr} {len cap:Nat} {x:DataW H×List MemPlace} (h:DataW.trod enc P w base spare held fuel t [.slice A len cap]=some x) (hw : ∀n∈x.1.weights P t,n<=reachBytes):
 ∃xs:List α,len=xs.length/\xs.length<=cap/\d.C w A xs.length xs/\wf xs:=by
 obtain ⟨xs,⟨A',c,he,hl,hC⟩,hwf⟩:=ho.get h hw
 injection he with he _
 injection he with h1 h2 h3
 subst h1
 subst h3
 exact ⟨xs,h2,hl,hC,hwf⟩
end Go.Proofs.YtdeneoknjeegbaaDoor.P
end
section
namespace Go.Proofs.YtdeneoknjeegbaaDoor.P
open Go.RowKit Go.ChangeShapes Go.WideShapes YtdeneoknjeegbaaDoorW.PrintWords YtdeneoknjeegbaaDoorW.PrintLast YtdeneoknjeegbaaDoorW.PrintMore
theorem opensByte:Opens Tryd.prog 5 (Kd.int .u8) (fun n=>(Lit.int .u8 n).wf=true):=Opens.int Tryd.underlying5 (by kernel_rfl)
theorem opensInt:Opens Tryd.prog 3 (Kd.int .i64) (fun n=>(Lit.int .i64 n).wf=true):=Opens.int Tryd.underlying3 (by kernel_rfl)
theorem opensBytes:Opens Tryd.prog 31 (Kd.slice 5 (Kd.int .u8)) (fun xs=>xs.length*Tryd.prog.bytesOf 5<=reachBytes/\∀a,a∈xs->(Lit.int .u8 a).wf=true):=Opens.slice Tryd.underlying31 (by kernel_rfl) opensByte
theorem wfB {l:List Int} (h : ∀x∈l,(Lit.int .u8 x).wf=true):BytesOk l:=by
 intro x hx
 have:=h x hx
 simp only [Lit.wf,IntKind.min,IntKind.max,IntKind.signed,IntKind.bits,Bool.and_eq_true,decide_eq_true_eq] at this
 simp at this
 omega
theorem each_mem {H:Type} {P:Program} : ∀ {ts:List TypeId} {ds:List (DataW H)} (h:(DataW.weightsEach P ts ds).all (· <= reachBytes)=true) (j:Nat) (t:TypeId) (d:DataW H),ts[j]? = some t->ds[j]? = some d->∀n∈d.weights P t,n<=reachBytes
 | [],_,_,j,t,d,ht,_=>by simp at ht
 | t0 :: ts,[],_,j,t,d,_,hd=>by simp at hd
 | t0 :: ts,d0 :: ds,h,j,t,d,ht,hd=>by
   simp only [DataW.weightsEach,List.all_append,Bool.and_eq_true] at h
   cases j with
   | zero=>
     obtain rfl:=Option.some.inj ht
     obtain rfl:=Option.some.inj hd
     intro n hn
     have:=List.all_eq_true.1 h.1 n hn
     simpa using this
   | succ j=>exact each_mem h.2 j t d (by simpa using ht) (by simpa using hd)
end Go.Proofs.YtdeneoknjeegbaaDoor.P
end
section
namespace Go.Proofs.YtdeneoknjeegbaaDoor.P
open Go.RowKit Go.ChangeShapes Go.WideShapes YtdeneoknjeegbaaDoor.Pure YtdeneoknjeegbaaDoorW.PrintWords YtdeneoknjeegbaaDoorW.PrintLast YtdeneoknjeegbaaDoorW.PrintMore
abbrev PutOk (x:S59):Prop:=BytesOk x.f0/\BytesOk x.f1
theorem opensPut:Opens Tryd.prog 59 k59 PutOk:=by
 have h:=(Opens.struct (P:=Tryd.prog) (t:=59) Tryd.underlying59 (by kernel_rfl) (OpensF.cons rfl rfl opensBytes rfl (OpensF.cons rfl rfl opensBytes rfl (OpensF.one rfl rfl opensInt)))).iso (fun x:S59=>(x.f0,x.f1,x.f2)) (fun y=>⟨y.1,y.2.1,y.2.2⟩) (fun _=>rfl)
 refine h.imp fun x hx=>?_
 obtain ⟨h0,h1,h2⟩:=hx
 exact ⟨wfB h0.2,wfB h1.2⟩
theorem opensPuts:Opens Tryd.prog 57 (Kd.slice 59 k59) (fun xs=>xs.length*Tryd.prog.bytesOf 59<=reachBytes/\∀a,a∈xs->PutOk a):=Opens.slice Tryd.underlying57 (by kernel_rfl) opensPut
section
variable {H:Type} {enc:TypeId×Value->H} {w:World} {base:Nat} {spare:Nat->Bool} {held:Bool} {r:Go.Reach} {b0:Nat} {v:Value} {d:DataW H} {p:List MemPlace}
set_option maxRecDepth 100000 in
theorem puts_param (hv:Value.okWide Tryd.prog w r b0 57 v) (h:DataW.Trod enc Tryd.prog w base spare held 57 v d p) (hw : ∀n∈d.weights Tryd.prog 57,n<=reachBytes):
 ∃(A:Option Addr) (c:Nat) (xs:List S59),v = .slice A xs.length c/\xs.length<=c/\Kd.C k59 w A xs.length xs/\∀a∈xs,PutOk a:=by
 obtain ⟨A,len,cap,rfl⟩:=okWide_slice Tryd.underlying57 hv
 obtain ⟨fuel,hf⟩:=h
 obtain ⟨xs,rfl,hl,hC,hwf⟩:=opensPuts.param hf hw
 exact ⟨A,cap,xs,rfl,hl,hC,hwf.2⟩
end
end Go.Proofs.YtdeneoknjeegbaaDoor.P
end
section
namespace Go.Proofs.YtdeneoknjeegbaaDoorW.PrintWords
open Go.ChangeShapes Go.WideShapes

end Go.Proofs.YtdeneoknjeegbaaDoorW.PrintWords
end
