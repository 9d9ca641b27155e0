/- Lemmas of this claim, part 14. -/
import Derived.Test.YtdeneoknjeegbaaGreatDoorPartPtreeLives13
set_option linter.unusedVariables false
set_option linter.unusedSimpArgs false
section
namespace Go.Proofs.YtdeneoknjeegbaaGreatDoor.P
open Go Go.RowKit Go.Shelf YtdeneoknjeegbaaGreatDoor.Pure YtdeneoknjeegbaaGreatDoorW.PrintWords YtdeneoknjeegbaaGreatDoorW.PrintLast YtdeneoknjeegbaaGreatDoorW.PrintMore
theorem backs_at (rows:List (List Value)) : ∀(m:Nat) (pre:List (Int×List Value)) (x:Int×List Value),pre++[x] <+: backs rows m->pre.length<m/\x=(((m-1-pre.length:Nat):Int),rows.getD (m-1-pre.length) [])
 | 0,pre,x,h=>by
   obtain ⟨t,ht⟩:=h
   have:=congrArg List.length ht
   simp [backs] at this
 | m+1,[],x,h=>by
   obtain ⟨t,ht⟩:=h
   simp only [backs,List.nil_append,List.cons_append] at ht
   obtain ⟨rfl,_⟩:=List.cons.inj ht
   exact ⟨by simp,by simp⟩
 | m+1,y :: pre,x,h=>by
   obtain ⟨t,ht⟩:=h
   simp only [backs,List.cons_append] at ht
   obtain ⟨rfl,h2⟩:=List.cons.inj ht
   obtain ⟨h3,h4⟩:=backs_at rows m pre x ⟨t,h2⟩
   refine ⟨by simp;omega,?_⟩
   rw [h4]
   simp only [List.length_cons]
   rw [show m+1-1-(pre.length+1)=m-1-pre.length by omega]
theorem backs_length (rows:List (List Value)) : ∀m,(backs rows m).length=m
 | 0=>rfl
 | m+1=>by simp [backs,backs_length rows m]
theorem okF_at {size room:Int} {row:List Int} : ∀ {fs:List Nd} {cs:Cs} {now:Int},okF size room row fs cs now->∀(j:Nat) (n:Nd),fs[j]? = some n->
 (¬forkBad (insF size row (fs.take j) cs now).1 n.f4 n.f5 (sideL row n (insF size row (fs.take j) cs now).2) (sideR row n (insF size row (fs.take j) cs now).2)/\(usedN (insF size row (fs.take j) cs now).1:Int)≠room)/\
  insF size row (fs.take (j+1)) cs now=(putF size row (insF size row (fs.take j) cs now).1 (insF size row (fs.take j) cs now).2 n,(lowN (insF size row (fs.take j) cs now).1:Int))
 | [],cs,now,h,j,n,hj=>by simp at hj
 | m :: fs,cs,now,h,0,n,hj=>by
   obtain rfl:m=n:=by simpa using hj
   exact ⟨h.1,by simp [insF]⟩
 | m :: fs,cs,now,h,j+1,n,hj=>by
   simp only [List.getElem?_cons_succ] at hj
   have:=okF_at h.2 j n hj
   simpa [insF] using this
theorem rev_at {α:Type} (l:List α) (j:Nat) (h:j<l.length):l.reverse[j]? = l[l.length-1-j]? := List.getElem?_reverse h
theorem ForksM.rowsAt {w:World} {base:Nat} {A:Option Addr} {n c:Nat} {Z:Nat->Prop} {fs:List Nd} (h:ForksM w base (.slice A n c) Z fs) (B:Nat) (hB:w.cell? ⟨B,0,none⟩=some (.slice A n c)):
 ∃rows,n=rows.length/\rows.length=fs.length/\RowsAt w B A c rows/\(∀(i:Nat) (n:Nd) (r:List Value),fs[i]? = some n->rows[i]? = some r->RowOf w Z n r)/\(∀k,some k=(Value.slice A n c).ownBlock->base<=k/\k<w.heap.size):=by
 obtain ⟨rows,hR,hl,hr⟩:=h.mem
 have hn:=(Kd.R_reads' hR).1
 refine ⟨rows,hn,hl,⟨by rw [<-hn];exact hB,fun k hk=>?_⟩,hr,fun k hk=>⟨Kd.R_base hR k hk.symm,Kd.R_lt hR k hk.symm⟩⟩
 have hg:rows[k]? = some (rows.getD k []):=by
  rw [List.getD_eq_getElem?_getD,List.getElem?_eq_getElem hk]
  rfl
 obtain ⟨h10,g,c',e,hc⟩:=raw_row10 hR k _ hg
 refine ⟨h10,g,?_,hc⟩
 injection e
theorem ArenaM.next {w w':World} {base p:Nat} {size room:Int} {vc vf:Value} {X:Nat->Prop} {cs cs1:Cs} (h:ArenaM w base p size room vc vf X cs) (hp:ArenaP w w' base p size room vc vf X cs1):
 ∃vc' vf' X',ArenaM w' base p size room vc' vf' X' cs1/\(∀k,X k->X' k)/\Grew w X X'/\Grew w (OwnS p vc vf) (OwnS p vc' vf')/\Kept w w' (OwnS p vc vf)/\Below base w w':=by
 obtain ⟨vc',vf',X1,hM,g1,g2,hk,hb⟩:=hp
 have hold : ∀k,k<w.heap.size->OwnS p vc' vf' k->OwnS p vc vf k:=fun k hl ho=>(g1 k ho).elim (fun x=>x) (fun h1=>absurd h1 (by omega))
 refine ⟨vc',vf',fun k=>X k\/X1 k,?_,fun k hx=>.inl hx,fun k hx=>hx.elim .inl (g2 k),g1,hk,hb⟩
 refine hM.step (Nat.le_refl _) (fun _ _ _=>rfl) (fun k hx=>.inr hx) (fun k hx=>?_)
 rcases hx with hx|hx
 ·have:=h.sep k hx
  exact ⟨Nat.lt_of_lt_of_le this.1 hk.1,fun ho=>this.2 (hold k this.1 ho)⟩
 ·exact hM.sep k hx
theorem ArenaM.more {w:World} {base p:Nat} {size room:Int} {vc vf:Value} {X:Nat->Prop} {cs:Cs} (h:ArenaM w base p size room vc vf X cs) (Y:Nat->Prop) (hY : ∀k,Y k->k<w.heap.size/\¬OwnS p vc vf k):ArenaM w base p size room vc vf (fun k=>X k\/Y k) cs:=
 h.step (Nat.le_refl _) (fun _ _ _=>rfl) (fun k hx=>.inl hx) (fun k hx=>hx.elim (h.sep k) (hY k))
theorem putObj_below (B:Nat) (W:World) {r:Nat} (o:Obj) (h:B<=r):Below B W (W.putObj r o):=⟨rfl,rfl,rfl,by rw [World.putObj_size];exact Nat.le_refl _,fun k hk=>World.putObj_heap_other (by omega)⟩
structure InsI (w wL:World) (base p:Nat) (size room:Int) (vc vf:Value) (X X0:Nat->Prop) (gn:Nat) (cs:Cs) (now:Int) (W:World):Prop where
 m : ∃vcj vfj Xj,ArenaM W base p size room vcj vfj Xj cs/\(∀k,X0 k->Xj k)/\Grew w X Xj/\Grew w (OwnS p vc vf) (OwnS p vcj vfj)/\(∀k,k=wL.heap.size\/k=wL.heap.size+1\/k=gn->¬OwnS p vcj vfj k/\¬Xj k)
 kept:Kept w W (OwnS p vc vf)
 low:Below base w W
 fixd : ∀k,X0 k->W.heap[k]? = wL.heap[k]?
 xl : ∀k,X0 k->k<wL.heap.size
 size:wL.heap.size<=W.heap.size
 now:W.heap[gn]? = some (.cells #[.int .i64 now] 3 (0,0))
 gl:gn<wL.heap.size/\w.heap.size<=gn
 wl:w.heap.size<=wL.heap.size
 bl:base<=w.heap.size
theorem InsI.below {w wL:World} {base p:Nat} {size room:Int} {vc vf:Value} {X X0:Nat->Prop} {gn:Nat} {cs:Cs} {now:Int} {W W':World} (h:InsI w wL base p size room vc vf X X0 gn cs now W) (hb:Below W.heap.size W W'):InsI w wL base p size room vc vf X X0 gn cs now W':=by
 obtain ⟨vcj,vfj,Xj,hM,h1,h2,h3,h4⟩:=h.m
 exact ⟨⟨vcj,vfj,Xj,hM.below hb,h1,h2,h3,h4⟩,⟨Nat.le_trans h.kept.1 hb.size,fun k hk ho=>(hb.block k (Nat.lt_of_lt_of_le hk h.kept.1)).trans (h.kept.2 k hk ho)⟩,h.low.trans (hb.mono (Nat.le_trans h.bl h.kept.1)),fun k hx=>(hb.block k (Nat.lt_of_lt_of_le (h.xl k hx) h.size)).trans (h.fixd k hx),h.xl,Nat.le_trans h.size hb.size,blk_below h.now hb,h.gl,h.wl,h.bl⟩
theorem InsI.turn {w wL:World} {base p:Nat} {size room:Int} {vc vf:Value} {X X0:Nat->Prop} {gn:Nat} {cs:Cs} {now:Int} {W:World} (h:InsI w wL base p size room vc vf X X0 gn cs now W) (o:Obj) (hlt:wL.heap.size+1<W.heap.size):InsI w wL base p size room vc vf X X0 gn cs now (W.putObj (wL.heap.size+1) o):=by
 obtain ⟨vcj,vfj,Xj,hM,h1,h2,h3,h4⟩:=h.m
 have hne : ∀k,k≠wL.heap.size+1->(W.putObj (wL.heap.size+1) o).heap[k]? = W.heap[k]? := fun k hk=>World.putObj_heap_other hk
 have hwl:=h.wl
 have hgl:=h.gl
 refine ⟨⟨vcj,vfj,Xj,hM.step (by rw [World.putObj_size];exact Nat.le_refl _) (fun k _ ho=>hne k (fun e=>?_)) (fun _ hx=>hx) (fun k hx=>by rw [World.putObj_size];exact hM.sep k hx),h1,h2,h3,h4⟩,⟨by rw [World.putObj_size];exact h.kept.1,fun k hk ho=>(hne k (by omega)).trans (h.kept.2 k hk ho)⟩,?_,fun k hx=>(hne k (by have:=h.xl k hx;omega)).trans (h.fixd k hx),h.xl,by rw [World.putObj_size];exact h.size,(hne gn (by omega)).trans h.now,h.gl,h.wl,h.bl⟩
 ·have:=h4 k (.inr (.inl e))
  rcases ho with ho|ho
  ·exact this.1 ho
  ·exact this.2 ho
 ·exact h.low.trans (putObj_below _ W o (Nat.le_trans h.bl (by omega)))
theorem InsI.fin {w wL:World} {base p:Nat} {size room:Int} {vc vf:Value} {X X0:Nat->Prop} {gn:Nat} {cs:Cs} {now:Int} {W:World} (h:InsI w wL base p size room vc vf X X0 gn cs now W) (o:Obj) (hlt:wL.heap.size<W.heap.size):ArenaP w (W.putObj wL.heap.size o) base p size room vc vf X cs:=by
 obtain ⟨vcj,vfj,Xj,hM,h1,h2,h3,h4⟩:=h.m
 have hne : ∀k,k≠wL.heap.size->(W.putObj wL.heap.size o).heap[k]? = W.heap[k]? := fun k hk=>World.putObj_heap_other hk
 have hwl:=h.wl
 refine ⟨vcj,vfj,Xj,hM.step (by rw [World.putObj_size];exact Nat.le_refl _) (fun k _ ho=>hne k (fun e=>?_)) (fun _ hx=>hx) (fun k hx=>by rw [World.putObj_size];exact hM.sep k hx),h3,h2,⟨by rw [World.putObj_size];exact h.kept.1,fun k hk ho=>(hne k (by omega)).trans (h.kept.2 k hk ho)⟩,h.low.trans (putObj_below _ W o (Nat.le_trans h.bl (by omega)))⟩
 have:=h4 k (.inl e)
 rcases ho with ho|ho
 ·exact this.1 ho
 ·exact this.2 ho
theorem cell_same {w w1:World} {a:Addr} (h:w1.heap[a.block]? = w.heap[a.block]?):w1.cell? a=w.cell? a:=by unfold World.cell?;rw [h]
theorem InsI.put {w wL:World} {base p:Nat} {size room:Int} {vc vf:Value} {X X0:Nat->Prop} {gn:Nat} {cs cs':Cs} {now:Int} {W W4 W5:World} (h:InsI w wL base p size room vc vf X X0 gn cs now W) {vcj vfj:Value} {Xj:Nat->Prop} (hM:ArenaM W4 base p size room vcj vfj Xj cs) (h1 : ∀k,X0 k->Xj k) (h2:Grew w X Xj) (h3:Grew w (OwnS p vc vf) (OwnS p vcj vfj)) (h4 : ∀k,k=wL.heap.size\/k=wL.heap.size+1\/k=gn->¬OwnS p vcj vfj k/\¬Xj k)
 (hlt:wL.heap.size+1<W.heap.size) (hs:W.heap.size<=W4.heap.size) (hk : ∀k,k<W.heap.size->k≠wL.heap.size+1->W4.heap[k]? = W.heap[k]?) (hl:Below base w W4) (hA:ArenaP W4 W5 base p size room vcj vfj Xj cs') (v:Int):
 W5.heap[gn]? = some (.cells #[.int .i64 now] 3 (0,0))/\InsI w wL base p size room vc vf X X0 gn cs' v (W5.setCell ⟨gn,0,none⟩ (.int .i64 v))/\(∀k,k=wL.heap.size\/k=wL.heap.size+1->(W5.setCell ⟨gn,0,none⟩ (.int .i64 v)).heap[k]? = W4.heap[k]?):=by
 obtain ⟨vc',vf',X',hM',s1,s2,s3,s4,s5⟩:=hM.next hA
 have hgl:=h.gl
 have hwl:=h.wl
 have hsz:=h.size
 have hbl:=h.bl
 have hn5:W5.heap[gn]? = some (.cells #[.int .i64 now] 3 (0,0)):=(s4.2 gn (by omega) (h4 gn (.inr (.inr rfl))).1).trans ((hk gn (by omega) (by omega)).trans h.now)
 have hset : ∀k,k≠gn->(W5.setCell ⟨gn,0,none⟩ (.int .i64 v)).heap[k]? = W5.heap[k]? := fun k hk'=>Below.heap_setCell _ ⟨gn,0,none⟩ _ k hk'
 have hB6:Below base W5 (W5.setCell ⟨gn,0,none⟩ (.int .i64 v)):=Below.setCell (Below.refl base W5) (by show base<=gn;omega) _
 have hz6:=hB6.size
 have h4' : ∀k,k=wL.heap.size\/k=wL.heap.size+1\/k=gn->¬OwnS p vc' vf' k/\¬X' k:=fun k hk'=>by
  have hk4:k<W4.heap.size:=by rcases hk' with rfl|rfl|rfl<;>omega
  refine ⟨fun ho=>?_,fun hx=>?_⟩
  ·rcases s3 k ho with h5|h5
   ·exact (h4 k hk').1 h5
   ·omega
  ·rcases s2 k hx with h5|h5
   ·exact (h4 k hk').2 h5
   ·omega
 refine ⟨hn5,⟨⟨vc',vf',X',?_,fun k hx=>s1 k (h1 k hx),h2.trans s2 (by omega),h3.trans s3 (by omega),h4'⟩,⟨by have:=s4.1;omega,fun k hk1 ho=>?_⟩,hl.trans (s5.trans hB6),fun k hx=>?_,h.xl,by have:=s4.1;omega,blk_set hn5 0 _,h.gl,h.wl,h.bl⟩,fun k hk'=>?_⟩
 ·refine hM'.step hz6 (fun k _ ho=>hset k (fun e=>?_)) (fun _ hx=>hx) (fun k hx=>⟨Nat.lt_of_lt_of_le (hM'.sep k hx).1 hz6,(hM'.sep k hx).2⟩)
  subst e
  rcases ho with ho|ho
  ·exact (h4' _ (.inr (.inr rfl))).1 ho
  ·exact (h4' _ (.inr (.inr rfl))).2 ho
 ·have hno : ¬OwnS p vcj vfj k:=fun h5=>(h3 k h5).elim ho (fun h6=>by omega)
  exact (hset k (by omega)).trans ((s4.2 k (by omega) hno).trans ((hk k (by omega) (by omega)).trans (h.kept.2 k hk1 ho)))
 ·have hxj:=h1 k hx
  have hne:k≠gn:=fun e=>(h4 k (.inr (.inr e))).2 hxj
  have hne2:k≠wL.heap.size+1:=fun e=>(h4 k (.inr (.inl e))).2 hxj
  have hxl:=h.xl k hx
  exact (hset k hne).trans ((s4.2 k (by omega) (hM.sep k hxj).2).trans ((hk k (by omega) hne2).trans (h.fixd k hx)))
 ·have h5:k=wL.heap.size\/k=wL.heap.size+1\/k=gn:=hk'.elim .inl (fun e=>.inr (.inl e))
  exact (hset k (by rcases hk' with rfl|rfl<;>omega)).trans (s4.2 k (by rcases hk' with rfl|rfl<;>omega) (h4 k h5).1)
theorem part_calls {w:World} {base p:Nat} {size room:Int} {vc vf:Value} {X:Nat->Prop} {cs:Cs} (h:ArenaM w base p size room vc vf X cs) (Ar:Option Addr) (cr:Nat) (row:List Int) (hrow:BX w X (.slice Ar row.length cr) row) (hrl:row.length<=1000) (hro:BytesOk row) (lf at_:Int) (va:Value) (n:Nd) (D1 D2 D5 D9:Option Addr) (d1 d2 d5 d9:Nat) (same:Bool) (b1:BX w X (.slice D1 n.f1.length d1) n.f1) (b5:BX w X (.slice D5 n.f5.length d5) n.f5) (o1:BytesOk n.f1) (o5:BytesOk n.f5) (hGS:GlobS w):
 Calls Tryz.prog 28 #[.pointer (some ⟨p,0,none⟩),.slice Ar row.length cr,.int .i64 lf,.agg #[va,.int .i64 at_,.bool n.f0,.slice D1 n.f1.length d1,.slice D2 n.f2.length d2,.int .i64 n.f3,.int .i64 n.f4,.slice D5 n.f5.length d5,.int .i64 n.f6,.int .i64 n.f7,.int .i64 n.f8,.slice D9 n.f9.length d9,.bool same]] w
  fun e w'=>PartP w w' base p size room vc vf X cs row (bcommon row (otherB n)) at_ lf e:=by
 cases h0:n.f0 with
 | true=>exact part_leaf h Ar cr row hrow hrl hro lf at_ va n D1 D2 D5 D9 d1 d2 d5 d9 same b1 b5 o1 o5 hGS h0
 | false=>exact part_fork h Ar cr row hrow hrl hro lf at_ va n D1 D2 D5 D9 d1 d2 d5 d9 same b1 b5 o1 o5 hGS h0
attribute [local go_sem] Oper.semAt_some
set_option maxHeartbeats 16000000 in
set_option maxRecDepth 100000 in
theorem insert_ok {w:World} {base p:Nat} {size room:Int} {vc vf:Value} {X:Nat->Prop} {cs:Cs} {A1 A2:Option Addr} {c1 c2:Nat} {id key:List Int} (h:InsPre w base p size room vc vf X cs A1 A2 c1 c2 id key) (root since:Int) (hroot:root = -1\/(root≠ -1/\∃n,nodeAt cs root=some n)) (hbad : ¬badIns id key since) (hos : ∀n,some n∈cs->BytesOk n.f1/\BytesOk n.f5) (t0:Option PT) (ht0:IsO cs root t0) (hh:heightO t0<=100000) (hno : ¬room-(usedN cs:Int)<((findO (keyB id) id root t0).needs:Int)) (hok:InsOk size room (keyB id) id key since (findO (keyB id) id root t0) cs) (hp0:root = -1->(findO (keyB id) id root t0).at_ = -1) (hp1:root≠ -1->(findO (keyB id) id root t0).at_≠ -1):
 Calls Tryz.prog 9 #[.pointer (some ⟨p,0,none⟩),.int .i64 root,.slice A1 id.length c1,.slice A2 key.length c2,.int .i64 since] w fun e w'=>InsP w w' base p size room vc vf X (insAll size (keyB id) id key since (findO (keyB id) id root t0) cs).1 (insAll size (keyB id) id key since (findO (keyB id) id root t0) cs).2 0 e:=by
 have H:=z_ h
 have HSZ:=z_ (show size≠0 by have:=h.m.hs;omega)
 have hsz:(size==0)=false:=by simpa using HSZ.out
 clear h
 have HNO:=z_ hno
 have HIO:=z_ hok
 have HP0:=z_ (And.intro hp0 hp1)
 clear hno hok hp0 hp1
 have HOS:=z_ hos
 have HT0:=z_ (And.intro ht0 hh)
 have d1:decide ((255:Int)<(id.length:Int))=false:=decide_eq_false (fun h=>hbad (.inl (by omega)))
 have d2:decide ((65535:Int)<(key.length:Int))=false:=decide_eq_false (fun h=>hbad (.inr (.inl (by omega))))
 have d3:decide (since<0)=false:=decide_eq_false (fun h=>hbad (.inr (.inr h)))
 have HNB:=z_ hbad
 clear hos ht0 hh hbad
 rcases hroot with hr|⟨hr,hnd⟩
 all_goals
  first
  | replace hr:root = -1:=hr
    have hr1:(root != -1)=false:=by simpa using hr
    have HPA:=z_ (HP0.out.1 hr)
    clear HP0
    clear hr
    refine calls_of_postM Tryz.func9 rfl ?_
    simp only [Tryz.ntmps9,List.size_toArray,List.length_cons,List.length_nil,Nat.reduceAdd,Nat.reduceSub,Array.replicate_succ,Array.replicate_zero,List.push_toArray,List.append_toArray,List.nil_append,List.cons_append]
    obtain ⟨w1,hw1⟩ : ∃w1,w1=w.alloc (.cells #[.pointer (some ⟨p,0,none⟩)] 25):=⟨_,rfl⟩
    have HB1:=z_ (show Below w.heap.size w w1 from by rw [hw1];exact below_alloc (Below.refl _ _) _)
    have HBX1:=z_ (show w1.heap[w.heap.size]? = some (.cells #[.pointer (some ⟨p,0,none⟩)] 25 (0,0)) from by rw [hw1];exact heap_alloc_new w _)
    go_wp2_with fail
    rw [<-hw1]
    clear hw1
    obtain ⟨g0,hg0⟩ : ∃g,g=w.heap.size:=⟨_,rfl⟩
    rw [<-hg0] at HBX1
    rw [<-hg0]
    have HG0:=z_ hg0
    clear hg0
    have k0:=blk_cell HBX1.out 0
    simp at k0
    refine (size_calls (blkA (H.out.m.below HB1.out)) HSZ.out).mono ?_
    rintro e w' ⟨rfl,rfl⟩
    obtain ⟨w2,hw2⟩ : ∃w2,w2=w1:=⟨_,rfl⟩
    have HB2:=z_ (show Below w.heap.size w w2 from by rw [hw2];exact HB1.out)
    have HBX2:=z_ (show w2.heap[g0]? = some (.cells #[.pointer (some ⟨p,0,none⟩)] 25 (0,0)) from by rw [hw2];exact HBX1.out)
    rw [<-hw2]
    rw [<-hw2] at k0
    clear hw2
  | replace hr:root≠ -1:=hr
    have hr1:(root != -1)=true:=by simpa using hr
    have HPA:=z_ (HP0.out.2 hr)
    clear HP0
    have HND:=z_ (show ∃n,nodeAt cs root=some n from hnd)
    clear hr hnd
    refine calls_of_postM Tryz.func9 rfl ?_
    simp only [Tryz.ntmps9,List.size_toArray,List.length_cons,List.length_nil,Nat.reduceAdd,Nat.reduceSub,Array.replicate_succ,Array.replicate_zero,List.push_toArray,List.append_toArray,List.nil_append,List.cons_append]
    obtain ⟨w1,hw1⟩ : ∃w1,w1=w.alloc (.cells #[.pointer (some ⟨p,0,none⟩)] 25):=⟨_,rfl⟩
    have HB1:=z_ (show Below w.heap.size w w1 from by rw [hw1];exact below_alloc (Below.refl _ _) _)
    have HBX1:=z_ (show w1.heap[w.heap.size]? = some (.cells #[.pointer (some ⟨p,0,none⟩)] 25 (0,0)) from by rw [hw1];exact heap_alloc_new w _)
    go_wp2_with fail
    rw [<-hw1]
    clear hw1
    obtain ⟨g0,hg0⟩ : ∃g,g=w.heap.size:=⟨_,rfl⟩
    rw [<-hg0] at HBX1
    rw [<-hg0]
    have HG0:=z_ hg0
    clear hg0
    have k0:=blk_cell HBX1.out 0
    simp at k0
    refine (size_calls (blkA (H.out.m.below HB1.out)) HSZ.out).mono ?_
    rintro e w' ⟨rfl,rfl⟩
    go_wp2_with fail
    refine (hashA_calls (H.out.m.below HB1.out) root (fun n hn=>(H.out.ok.at root n hn).1.2.2.2) (H.out.g _ (HB1.out.mono H.out.m.base_le.1))).mono ?_
    rintro e w2 ⟨⟨v,rfl,hv⟩,hb⟩
    obtain ⟨ah,ch,rfl⟩:=hv.some (by
     obtain ⟨n,hn⟩:=HND.out
     unfold hashAt
     rw [hn]
     exact H.out.hash n (nodeAt_mem hn))
    obtain ⟨nh,hnh⟩ : ∃n,n=(hashAt size cs root).length:=⟨_,rfl⟩
    rw [<-hnh]
    have hnil : ∀W:World,(binOp .eql 23 (.slice (some ah) nh ch) (.slice none 0 0)).run Tryz.prog W = .ok (.bool false) W:=fun _=>by kernel_rfl
    have HB2:=z_ (below_step HB1.out hb)
    have HBX2:=z_ (blk_below HBX1.out hb)
    clear hnh hv hb k0
    have k0:=blk_cell HBX2.out 0
    simp at k0
 all_goals
  go_wp2_with fail
  clear d1 d2 d3 k0
  refine (find_calls (H.out.m.below HB2.out) H.out.ok root A1 c1 id (Kd.C_below (Kd.V_reads' H.out.bid).2.2 HB2.out) (Kd.V_reads' H.out.bid).2.1 H.out.ido (fun n hn=>(HOS.out n hn).1) t0 HT0.out.1 HT0.out.2).mono ?_
  rintro e w3 ⟨⟨va,Z,E1,E2,E5,E9,e1,e2,e5,e9,rfl,hF,hZ,x1,x2,x5,x9⟩,hb⟩
  obtain ⟨s,hs⟩ : ∃s,s=findO (keyB id) id root t0:=⟨_,rfl⟩
  rw [<-hs] at hF x1 x2 x5 x9
  rw [<-hs]
  obtain ⟨Af,nf,cf,rfl⟩ : ∃Af nf cf,va = .slice Af nf cf:=by
   obtain ⟨rows,hR,_⟩:=hF.mem
   exact formR hR
  have HF:=z_ hF
  have HS:=z_ hs
  have HZ:=z_ hZ
  have HX:=z_ (And.intro x1 x5)
  have HB3:=z_ (below_step HB2.out hb)
  have HBX3:=z_ (blk_below HBX2.out hb)
  have HW2:=z_ hb.size
  have HNF:=z_ (show nf=s.forks.length/\nf<=100000 from by
   obtain ⟨rows,hR,hl,_⟩:=hF.mem
   have h1:=(Kd.R_reads' hR).1
   have h2:=(way_o cs (keyB id) id root t0 HT0.out.1).2.2.1
   rw [<-hs] at h2
   have h3:=HT0.out.2
   omega)
  clear hs hF hZ x1 x2 x5 x9 hb
  obtain ⟨w4,hw4⟩ : ∃w4,w4=w3.alloc (.cells #[.slice Af nf cf,.int .i64 s.at_,.bool s.node.f0,.slice E1 s.node.f1.length e1,.slice E2 s.node.f2.length e2,.int .i64 s.node.f3,.int .i64 s.node.f4,.slice E5 s.node.f5.length e5,.int .i64 s.node.f6,.int .i64 s.node.f7,.int .i64 s.node.f8,.slice E9 s.node.f9.length e9,.bool s.same] 61):=⟨_,rfl⟩
  have HB43:=z_ (show Below w3.heap.size w3 w4 from by rw [hw4];exact below_alloc (Below.refl _ _) _)
  have HSP4:=z_ (show SpB w4 w3.heap.size [.slice Af nf cf,.int .i64 s.at_,.bool s.node.f0,.slice E1 s.node.f1.length e1,.slice E2 s.node.f2.length e2,.int .i64 s.node.f3,.int .i64 s.node.f4,.slice E5 s.node.f5.length e5,.int .i64 s.node.f6,.int .i64 s.node.f7,.int .i64 s.node.f8,.slice E9 s.node.f9.length e9,.bool s.same] from by rw [hw4];exact heap_alloc_new w3 _)
  go_wp2_with fail
  rw [<-hw4]
  clear hw4
  obtain ⟨g3,hg3⟩ : ∃g,g=w3.heap.size:=⟨_,rfl⟩
  rw [<-hg3] at HSP4
  rw [<-hg3]
  have HG3:=z_ hg3
  clear hg3
  have HBX4:=z_ (blk_below HBX3.out HB43.out)
  have HB4:=z_ (below_step HB3.out HB43.out)
  refine start_ (n:=5) (S:=fun w'=>SpB w' g3 [.slice Af nf cf,.int .i64 s.at_,.bool s.node.f0,.slice E1 s.node.f1.length e1,.slice E2 s.node.f2.length e2,.int .i64 s.node.f3,.int .i64 s.node.f4,.slice E5 s.node.f5.length e5,.int .i64 s.node.f6,.int .i64 s.node.f7,.int .i64 s.node.f8,.slice E9 s.node.f9.length e9,.bool s.same]/\w'.heap[g0]? = some (.cells #[.pointer (some ⟨p,0,none⟩)] 25 (0,0))) (ds:=[]) (bt_ 5 0) (by kernel_rfl) rfl rfl ?hs0 (fun hHeld=>?_)
  case hs0=>exact ⟨HSP4.out,HBX4.out⟩
  refine with_tabW ins_tab8 ins_bits8 (fun HT_ HW_=>?_)
  have HD5:=z_ (show Below w4.heap.size w4 w4.drew from below_drew (Below.refl _ _))
  generalize hgw:w4.drew=w5 at HD5 hHeld ⊢
  clear hgw
  have HB5:=z_ (below_step HB4.out HD5.out)
  have HB53:=z_ (below_step HB43.out HD5.out)
  refine take_ (i:=0) (N:=some 48) (v:=?_) (a':=?_) (bt_ 5 1) rfl rfl (take_ofW HT_.out HW_.out (by kernel_rfl)) (fun _ _ _ h=>h) (Or.inl ⟨by rfl,?_⟩) hHeld ?_ ?_
  rotate_left
  ·rintro w' s0
   obtain ⟨z0,z1,z2,z3,z4,z5,z6,z7,z8,z9,z10,z11,z12⟩:=SpB.cells s0.1
   go_simp
   with_reducible rfl
  rotate_left
  ·simp only [pq_]
   rfl
  refine take_ (i:=2) (N:=some 50) (v:=?_) (a':=?_) (bt_ 5 5) rfl rfl (take_ofW HT_.out HW_.out (by kernel_rfl)) (fun _ _ _ h=>h) (Or.inl ⟨by rfl,?_⟩) hHeld ?_ ?_
  rotate_left
  ·rintro w' s0
   have k0:=blk_cell s0.2 0
   simp at k0
   go_simp
   with_reducible rfl
  rotate_left
  ·simp only [pq_]
   rfl
  refine one_ (i:=1) (N:=some 49) (bt_ 5 7) rfl rfl (one_of HT_.out (by kernel_rfl)) (by decide) (fun K hK=>?_)
  refine goes_ Tryz.func21 (by kernel_rfl) rfl #[.agg #[.slice Af nf cf,.int .i64 s.at_,.bool s.node.f0,.slice E1 s.node.f1.length e1,.slice E2 s.node.f2.length e2,.int .i64 s.node.f3,.int .i64 s.node.f4,.slice E5 s.node.f5.length e5,.int .i64 s.node.f6,.int .i64 s.node.f7,.int .i64 s.node.f8,.slice E9 s.node.f9.length e9,.bool s.same]] (by rfl) rfl rfl (by (try simp only [List.map_toArray,List.map_cons,List.map_nil]);first|done|rfl) ?_
  with_reducible refine (needs_calls w5 Af nf cf s.at_ (.bool s.node.f0) (.slice E1 s.node.f1.length e1) (.slice E2 s.node.f2.length e2) (.int .i64 s.node.f3) (.int .i64 s.node.f4) (.slice E5 s.node.f5.length e5) (.int .i64 s.node.f6) (.int .i64 s.node.f7) (.int .i64 s.node.f8) (.slice E9 s.node.f9.length e9) s.same (by have:=HNF.out;omega)).mono ?_
  rintro e w6 ⟨rfl,hb⟩
  have HB6:=z_ (below_step HB5.out hb)
  have HB63:=z_ (below_step HB53.out hb)
  have HSP6:=z_ (HSP4.out.below (below_step HD5.out hb))
  have HBX6:=z_ (blk_below HBX4.out (below_step HD5.out hb))
  clear hb
  refine ⟨_,rfl,?_⟩
  refine hK.out _ _ ⟨HSP6.out,HBX6.out⟩ (fun hHeld=>?_)
  clear hK K
  refine norm_ (a':=?_) ?_ ?_
  rotate_left
  ·show Act.put _ (some 49) _=_
   simp only [pq_]
   rfl
  have HNE:((s.needs:Nat):Int)=(nf:Int)+1+(if s.at_≠ -1/\s.same=false then 1 else 0):=by
   unfold Spot.needs
   have:=HNF.out
   split<;>omega
  rw [<-HNE]
  clear HNE
  refine one_ (i:=3) (N:=some 51) (bt_ 5 15) rfl rfl (one_of HT_.out (by kernel_rfl)) (by decide) (fun K hK=>?_)
  refine goes_ Tryz.func25 (by kernel_rfl) rfl #[.pointer (some ⟨p,0,none⟩)] (by rfl) rfl rfl (by (try simp only [List.map_toArray,List.map_cons,List.map_nil]);first|done|rfl) ?_
  with_reducible refine (roomA_calls (H.out.m.below HB6.out)).mono ?_
  rintro e w7 ⟨rfl,hdr⟩
  have HB7:=z_ (below_step HB6.out hdr.below)
  have HB73:=z_ (below_step HB63.out hdr.below)
  have HSP7:=z_ (HSP6.out.below hdr.below)
  have HBX7:=z_ (blk_below HBX6.out hdr.below)
  clear hdr
  refine ⟨_,rfl,?_⟩
  refine hK.out _ _ ⟨HSP7.out,HBX7.out⟩ (fun hHeld=>?_)
  clear hK K
  refine norm_ (a':=?_) ?_ ?_
  rotate_left
  ·show Act.put _ (some 51) _=_
   simp only [pq_]
   rfl
  obtain ⟨rm,hrm⟩ : ∃x,x=room-(usedN cs:Int):=⟨_,rfl⟩
  rw [<-hrm]
  obtain ⟨nd,hnd⟩ : ∃x,x=((s.needs:Nat):Int):=⟨_,rfl⟩
  rw [<-hnd]
  have HRM:=z_ hrm
  have HND2:=z_ hnd
  clear hrm hnd
  refine pure_ (i:=4) (N:=some 52) (v:=?_) (a':=?_) (bt_ 5 31) rfl rfl (any_of HT_.out (by kernel_rfl)) (fun _ _ _ h=>h) (Or.inl ⟨by rfl,?_⟩) ?_ ?_
  rotate_left
  ·intro w'
   go_simp
   with_reducible rfl
  rotate_left
  ·simp only [pq_]
   rfl
  refine done_ (done_of HT_.out (by kernel_rfl)) ?_
  clear hHeld HT_ HW_
  have d6 : ¬rm<nd:=by have h1:=HNO.out;rw [<-HS.out] at h1;have:=HRM.out;have:=HND2.out;omega
  have d5:decide (rm<nd)=false:=decide_eq_false d6
  go_wp2_with fail
  clear d5 d6
  refine (key_calls A1 c1 id w7 (Kd.C_below (Kd.V_reads' H.out.bid).2.2 HB7.out) (Kd.V_reads' H.out.bid).2.1).mono ?_
  rintro e w8 ⟨v,rfl,hR,hb⟩
  obtain ⟨Ak,nk,ck,rfl⟩:=formR hR
  obtain ⟨row,hrow⟩ : ∃row,row=keyB id:=⟨_,rfl⟩
  rw [<-hrow] at hR
  have HRW:=z_ hrow
  obtain rfl:nk=row.length:=(Kd.R_reads' hR).1
  have HVR:=z_ (show BX w8 (fun k=>w.heap.size<=k/\k<w8.heap.size) (.slice Ak row.length ck) row from Kd.V_mono (Kd.R_V (Kd.R_bound hR)) (fun k hk=>⟨by have:=HB7.out.size;have:=hk.2.1;omega,hk.2.2.1⟩))
  have HB8:=z_ (below_step HB7.out hb)
  have HB83:=z_ (below_step HB73.out hb)
  have HBX8:=z_ (blk_below HBX7.out hb)
  have HSP8:=z_ (HSP7.out.below hb)
  clear hR hb hrow
  obtain ⟨w9,hw9⟩ : ∃w9,w9=w8.alloc (.cells #[.slice Ak row.length ck] 23):=⟨_,rfl⟩
  have HB98:=z_ (show Below w8.heap.size w8 w9 from by rw [hw9];exact below_alloc (Below.refl _ _) _)
  have HBR9:=z_ (show w9.heap[w8.heap.size]? = some (.cells #[.slice Ak row.length ck] 23 (0,0)) from by rw [hw9];exact heap_alloc_new w8 _)
  have HB9:=z_ (below_step HB8.out HB98.out)
  have HB93:=z_ (below_step HB83.out HB98.out)
  have HBX9:=z_ (blk_below HBX8.out HB98.out)
  have HSP9:=z_ (HSP8.out.below HB98.out)
  have hq9:(w8.alloc (.cells #[.slice Ak row.length ck] 23)).cell? ⟨g0,0,none⟩=some (.pointer (some ⟨p,0,none⟩)):=by
   have k0:=blk_cell HBX9.out 0
   rw [hw9] at k0
   simpa using k0
  go_wp2_with fail
  rw [<-hw9]
  clear hw9 hq9
  obtain ⟨gr,hgr⟩ : ∃g,g=w8.heap.size:=⟨_,rfl⟩
  rw [<-hgr] at HBR9
  rw [<-hgr]
  have HGR:=z_ hgr
  clear hgr
  have HBU:=z_ (show base<=w.heap.size/\p<w.heap.size from H.out.m.base_le)
  refine (leaf_calls (H.out.m.below HB9.out) A1 A2 c1 c2 id key since (Kd.V_below H.out.bid HB9.out) (Kd.V_below H.out.bkey HB9.out) (H.out.g _ (HB9.out.mono HBU.out.1))).mono ?_
  rintro e w10 hp
  obtain ⟨rfl,hA⟩:=hp.ok (fun h=>HNB.out (by unfold badIns;omega)) HIO.out.leaf
  obtain ⟨vc1,vf1,X1,hM1,hs1,gx1,go1,hk1,hl1⟩:=(H.out.m.below HB9.out).next hA
  obtain ⟨c0,hc0⟩ : ∃c0,c0=putC cs (leafNd size id key since):=⟨_,rfl⟩
  rw [<-hc0] at hM1
  obtain ⟨n0,hn0⟩ : ∃n0,n0=(lowN cs:Int):=⟨_,rfl⟩
  rw [<-hn0]
  have HC0:=z_ (And.intro hc0 hn0)
  have HM10:=z_ hM1
  have HX10:=z_ (And.intro hs1 (And.intro gx1 go1))
  have HK10:=z_ (And.intro hk1 hl1)
  have HOW:=z_ (show ∀k,OwnS p vc vf k->k<w.heap.size from fun k hk=>H.out.m.own k hk)
  have HSM10:=z_ (show ∀k,X k\/w.heap.size<=k->k<w9.heap.size->w10.heap[k]? = w9.heap[k]? from fun k hk hl=>hk1.2 k hl (fun ho=>by
   rcases hk with hk|hk
   ·exact (H.out.m.sep k hk).2 ho
   ·have:=H.out.m.own k ho
    omega))
  clear hp hA hM1 hs1 gx1 go1 hk1 hl1 hc0 hn0
  obtain ⟨w11,hw11⟩ : ∃w11,w11=w10.alloc (.cells #[.int .i64 n0] 3):=⟨_,rfl⟩
  have HB11:=z_ (show Below w10.heap.size w10 w11 from by rw [hw11];exact below_alloc (Below.refl _ _) _)
  have HBN11:=z_ (show w11.heap[w10.heap.size]? = some (.cells #[.int .i64 n0] 3 (0,0)) from by rw [hw11];exact heap_alloc_new w10 _)
  have HLT:=z_ (show g0<w3.heap.size/\w.heap.size<=g0/\w3.heap.size=g3/\g3<w9.heap.size/\gr<w9.heap.size/\w.heap.size<=gr/\w.heap.size<=g3/\w3.heap.size<=w9.heap.size/\w9.heap.size<=w10.heap.size/\g0<w9.heap.size from by
   have h1:=blk_lt HBX3.out
   have h2:=blk_lt HSP9.out
   have h3:=blk_lt HBR9.out
   have h4:=HG0.out
   have h5:=HG3.out
   have h6:=HGR.out
   have h7:=HB3.out.size
   have h8:=HB8.out.size
   have h9:=HB93.out.size
   have h10:=HK10.out.1.1
   have h11:=blk_lt HBX9.out
   omega)
  have HSP11:=z_ (show SpB w11 g3 [.slice Af nf cf,.int .i64 s.at_,.bool s.node.f0,.slice E1 s.node.f1.length e1,.slice E2 s.node.f2.length e2,.int .i64 s.node.f3,.int .i64 s.node.f4,.slice E5 s.node.f5.length e5,.int .i64 s.node.f6,.int .i64 s.node.f7,.int .i64 s.node.f8,.slice E9 s.node.f9.length e9,.bool s.same] from (HB11.out.block g3 (by have:=HLT.out;omega)).trans ((HSM10.out g3 (.inr (by have:=HLT.out;omega)) (by have:=HLT.out;omega)).trans HSP9.out))
  have HBX11:=z_ (show w11.heap[g0]? = some (.cells #[.pointer (some ⟨p,0,none⟩)] 25 (0,0)) from (HB11.out.block g0 (by have:=HLT.out;omega)).trans ((HSM10.out g0 (.inr (by have:=HLT.out;omega)) (by have:=HLT.out;omega)).trans HBX9.out))
  have HBR11:=z_ (show w11.heap[gr]? = some (.cells #[.slice Ak row.length ck] 23 (0,0)) from (HB11.out.block gr (by have:=HLT.out;omega)).trans ((HSM10.out gr (.inr (by have:=HLT.out;omega)) (by have:=HLT.out;omega)).trans HBR9.out))
 all_goals
  first
  | have hpart:(findO (keyB id) id root t0).at_ = -1:=HPA.out
    rw [<-HS.out] at hpart
    have a1:(s.at_ != -1)=false:=by simp [hpart]
    have HSTA:=z_ (show insStart size row id key since s cs=(c0,n0) from by unfold insStart;rw [if_neg (fun h=>h.1 hpart),<-HC0.out.1,<-HC0.out.2])
    clear hpart
    have hsp:SpB (w10.alloc (.cells #[.int .i64 n0] 3)) g3 [.slice Af nf cf,.int .i64 s.at_,.bool s.node.f0,.slice E1 s.node.f1.length e1,.slice E2 s.node.f2.length e2,.int .i64 s.node.f3,.int .i64 s.node.f4,.slice E5 s.node.f5.length e5,.int .i64 s.node.f6,.int .i64 s.node.f7,.int .i64 s.node.f8,.slice E9 s.node.f9.length e9,.bool s.same]:=by rw [<-hw11];exact HSP11.out
    obtain ⟨z0,z1,z2,z3,z4,z5,z6,z7,z8,z9,z10,z11,z12⟩:=hsp.cells
    clear hsp
    go_wp2_with fail
    rw [<-hw11]
    clear z0 z1 z2 z3 z4 z5 z6 z7 z8 z9 z10 z11 z12 a1 hw11
    obtain ⟨gn,hgn⟩ : ∃g,g=w10.heap.size:=⟨_,rfl⟩
    rw [<-hgn] at HBN11
    rw [<-hgn]
    have HGN:=z_ hgn
    clear hgn
    obtain ⟨wA,hwA⟩ : ∃x,x=w11:=⟨_,rfl⟩
    obtain ⟨vcA,hvcA⟩ : ∃x,x=vc1:=⟨_,rfl⟩
    obtain ⟨vfA,hvfA⟩ : ∃x,x=vf1:=⟨_,rfl⟩
    obtain ⟨XA,hXA⟩ : ∃x,x=X1:=⟨_,rfl⟩
    obtain ⟨cA,hcA⟩ : ∃x,x=c0:=⟨_,rfl⟩
    obtain ⟨nA,hnA⟩ : ∃x,x=n0:=⟨_,rfl⟩
    rw [<-hcA,<-hnA] at HSTA
    have HMA:=z_ (show ArenaM wA base p size room vcA vfA XA cA from by rw [hwA,hvcA,hvfA,hXA,hcA];exact HM10.out.below HB11.out)
    have HXA:=z_ (show (∀k,X k->XA k)/\Grew w X XA/\(∀k,OwnS p vcA vfA k->OwnS p vc vf k\/w9.heap.size<=k) from by
     rw [hvcA,hvfA,hXA]
     exact ⟨HX10.out.1,fun k hk=>(HX10.out.2.1 k hk).elim .inl (fun h=>.inr (by have:=HB9.out.size;omega)),HX10.out.2.2⟩)
    have HKA:=z_ (show Kept w wA (OwnS p vc vf)/\Below base w wA/\w10.heap.size<=wA.heap.size from by
     rw [hwA]
     refine ⟨⟨by have:=HB9.out.size;have:=HK10.out.1.1;have:=HB11.out.size;omega,fun k hk ho=>?_⟩,((HB9.out.mono HBU.out.1).trans HK10.out.2).trans (HB11.out.mono (by have:=HB9.out.size;have:=HK10.out.1.1;have:=HBU.out;omega)),HB11.out.size⟩
     have h1:=HB9.out.size
     exact (HB11.out.block k (by have:=HK10.out.1.1;omega)).trans ((HK10.out.1.2 k (by omega) ho).trans (HB9.out.block k hk)))
    have HSMA:=z_ (show ∀k,X k\/w.heap.size<=k->k<w9.heap.size->wA.heap[k]? = w9.heap[k]? from fun k h1 h2=>by
     rw [hwA]
     exact (HB11.out.block k (by have:=HK10.out.1.1;omega)).trans (HSM10.out k h1 h2))
    have HBNA:=z_ (show wA.heap[gn]? = some (.cells #[.int .i64 nA] 3 (0,0))/\¬OwnS p vcA vfA gn/\¬XA gn/\w10.heap.size=gn from by
     rw [hwA,hvcA,hvfA,hXA,hnA]
     refine ⟨HBN11.out,fun ho=>?_,fun hx=>?_,HGN.out.symm⟩
     ·have:=HM10.out.own gn ho
      have:=HGN.out
      omega
     ·have:=(HM10.out.sep gn hx).1
      have:=HGN.out
      omega)
    have HBXA:=z_ (show wA.heap[g0]? = some (.cells #[.pointer (some ⟨p,0,none⟩)] 25 (0,0))/\wA.heap[gr]? = some (.cells #[.slice Ak row.length ck] 23 (0,0)) from by rw [hwA];exact ⟨HBX11.out,HBR11.out⟩)
    rw [<-hwA,<-hnA]
    clear hwA hvcA hvfA hXA hcA hnA
  | have hat:(findO (keyB id) id root t0).at_≠ -1:=HPA.out
    cases hsm:(findO (keyB id) id root t0).same
    all_goals
     first
     | replace hsm:(findO (keyB id) id root t0).same=false:=hsm
       rw [<-HS.out] at hat hsm
       have a1:(s.at_ != -1)=true:=by simp [hat]
       have HPT:=z_ (show ¬forkBad c0 (bcommon row (otherB s.node)) row (kidL row (bcommon row (otherB s.node)) s.at_ n0) (kidR row (bcommon row (otherB s.node)) s.at_ n0)/\(usedN c0:Int)≠room from by
        have:=HIO.out.part
        rw [<-HS.out,<-HRW.out,<-HC0.out.1,<-HC0.out.2] at this
        exact this ⟨hat,hsm⟩)
       have HSTP:=z_ (show insStart size row id key since s cs=(putC c0 (forkOf size c0 (bcommon row (otherB s.node)) row (kidL row (bcommon row (otherB s.node)) s.at_ n0) (kidR row (bcommon row (otherB s.node)) s.at_ n0)),(lowN c0:Int)) from by unfold insStart;rw [if_pos ⟨hat,hsm⟩,<-HC0.out.1,<-HC0.out.2])
       have HSN:=z_ (show BytesOk s.node.f1/\BytesOk s.node.f5 from by
        cases ht:t0 with
        | none=>exfalso;rw [HS.out,ht] at hat;exact hat rfl
        | some t=>
          have h1:=HT0.out.1
          rw [ht] at h1
          obtain ⟨_,_,h3,_,_⟩:=way_find cs (keyB id) id t root h1
          have h4:s.node=(findT (keyB id) id root t).node:=by rw [HS.out,ht];rfl
          rw [h4]
          exact HOS.out _ (nodeAt_mem h3))
       clear hat
       have hsp:SpB (w10.alloc (.cells #[.int .i64 n0] 3)) g3 [.slice Af nf cf,.int .i64 s.at_,.bool s.node.f0,.slice E1 s.node.f1.length e1,.slice E2 s.node.f2.length e2,.int .i64 s.node.f3,.int .i64 s.node.f4,.slice E5 s.node.f5.length e5,.int .i64 s.node.f6,.int .i64 s.node.f7,.int .i64 s.node.f8,.slice E9 s.node.f9.length e9,.bool s.same]:=by rw [<-hw11];exact HSP11.out
       obtain ⟨z0,z1,z2,z3,z4,z5,z6,z7,z8,z9,z10,z11,z12⟩:=hsp.cells
       clear hsp
       have hk0:(w10.alloc (.cells #[.int .i64 n0] 3)).cell? ⟨g0,0,none⟩=some (.pointer (some ⟨p,0,none⟩)):=by
        have k0:=blk_cell HBX11.out 0
        rw [hw11] at k0
        simpa using k0
       have hkr:(w10.alloc (.cells #[.int .i64 n0] 3)).cell? ⟨gr,0,none⟩=some (.slice Ak row.length ck):=by
        have k0:=blk_cell HBR11.out 0
        rw [hw11] at k0
        simpa using k0
       go_wp2_with fail
       rw [<-hw11]
       clear z0 z1 z2 z3 z4 z5 z6 z7 z8 z9 z10 z11 z12 a1 hsm hk0 hkr hw11
       obtain ⟨gn,hgn⟩ : ∃g,g=w10.heap.size:=⟨_,rfl⟩
       rw [<-hgn] at HBN11
       rw [<-hgn]
       have HGN:=z_ hgn
       clear hgn
       have HMP:=z_ (show ArenaM w11 base p size room vc1 vf1 (fun k=>X1 k\/(w.heap.size<=k/\k<w9.heap.size)) c0 from (HM10.out.below HB11.out).more _ (fun k hk=>⟨by have:=HLT.out;have:=HB11.out.size;omega,fun ho=>by
        rcases HX10.out.2.2 k ho with h|h
        ·have:=HOW.out k h
         omega
        ·omega⟩))
       have HS911:=z_ (show ∀k,X k\/w.heap.size<=k->k<w9.heap.size->w11.heap[k]? = w9.heap[k]? from fun k h1 h2=>(HB11.out.block k (by have:=HK10.out.1.1;omega)).trans (HSM10.out k h1 h2))
       have HVP:=z_ (show BX w11 (fun k=>X1 k\/(w.heap.size<=k/\k<w9.heap.size)) (.slice Ak row.length ck) row from Kd.V_mono (Kd.V_step HVR.out (fun k hk _=>(HS911.out k (.inr hk.1) (by have:=HB98.out.size;omega)).trans (HB98.out.block k hk.2))) (fun k hk=>.inr ⟨hk.1,by have:=HB98.out.size;omega⟩))
       have hZ3 : ∀k,Z k->w11.heap[k]? = w3.heap[k]? := fun k hk=>by
        have hl:=(HF.out.sep k hk).1
        refine (HS911.out k ?_ (by have:=HLT.out;omega)).trans (HB93.out.block k hl)
        rcases HZ.out k hk with h|h
        ·exact .inl h
        ·exact .inr (by have:=HB2.out.size;omega)
       have hZ4 : ∀k,Z k->X1 k\/(w.heap.size<=k/\k<w9.heap.size):=fun k hk=>by
        have hl:=(HF.out.sep k hk).1
        rcases HZ.out k hk with h|h
        ·exact .inl (HX10.out.1 k h)
        ·exact .inr ⟨by have:=HB2.out.size;omega,by have:=HLT.out;omega⟩
       have hl11:Below base w w11:=((HB9.out.mono HBU.out.1).trans HK10.out.2).trans (HB11.out.mono (by have:=HB9.out.size;have:=HK10.out.1.1;have:=HBU.out;omega))
       have HL11:=z_ hl11
       refine (part_calls HMP.out Ak ck row HVP.out (by rw [HRW.out];have:=keyB_len id;omega) (by rw [HRW.out];exact keyB_ok id H.out.ido) n0 s.at_ (.slice Af nf cf) s.node E1 E2 E5 E9 e1 e2 e5 e9 false (Kd.V_mono (Kd.V_step HX.out.1 (fun k hk _=>hZ3 k hk)) hZ4) (Kd.V_mono (Kd.V_step HX.out.2 (fun k hk _=>hZ3 k hk)) hZ4) HSN.out.1 HSN.out.2 (H.out.g w11 hl11)).mono ?_
       rintro e w12 ⟨i,er,cs1,hout,rfl,hA⟩
       obtain ⟨rfl,rfl⟩:i=(lowN c0:Int)/\cs1=putC c0 (forkOf size c0 (bcommon row (otherB s.node)) row (kidL row (bcommon row (otherB s.node)) s.at_ n0) (kidR row (bcommon row (otherB s.node)) s.at_ n0)):=by
        rcases hout with ⟨h1,_⟩|⟨_,h1,_⟩|⟨_,_,h1,_,h2⟩
        ·exact absurd h1 HPT.out.1
        ·exact absurd h1 HPT.out.2
        ·exact ⟨h1,h2⟩
       obtain ⟨vcA,vfA,XA,hMA,hs1,gx1,go1,hk1,hl1⟩:=HMP.out.next hA
       obtain ⟨cA,hcA⟩ : ∃x,x=putC c0 (forkOf size c0 (bcommon row (otherB s.node)) row (kidL row (bcommon row (otherB s.node)) s.at_ n0) (kidR row (bcommon row (otherB s.node)) s.at_ n0)):=⟨_,rfl⟩
       obtain ⟨nA,hnA⟩ : ∃x,x=(lowN c0:Int):=⟨_,rfl⟩
       rw [<-hcA] at hMA
       rw [<-hnA]
       have HSTA:=z_ (show insStart size row id key since s cs=(cA,nA) from by rw [hcA,hnA];exact HSTP.out)
       have hng : ¬OwnS p vc1 vf1 gn:=fun ho=>by
        have:=HM10.out.own gn ho
        have:=HGN.out
        omega
       have HGL:=z_ (show gn<w11.heap.size/\gn=w10.heap.size from ⟨blk_lt HBN11.out,HGN.out⟩)
       have HBN12:=z_ (show w12.heap[gn]? = some (.cells #[.int .i64 n0] 3 (0,0)) from (hk1.2 gn HGL.out.1 hng).trans HBN11.out)
       have hown : ∀k,w.heap.size<=k->k<w9.heap.size->¬OwnS p vc1 vf1 k:=fun k h1 h2 ho=>by
        rcases HX10.out.2.2 k ho with h|h
        ·have:=HOW.out k h
         omega
        ·omega
       have HS12:=z_ (show ∀k,X k\/w.heap.size<=k->k<w9.heap.size->w12.heap[k]? = w9.heap[k]? from fun k h1 h2=>(hk1.2 k (by have:=HLT.out;have:=HB11.out.size;omega) (fun ho=>by
        rcases HX10.out.2.2 k ho with h|h
        ·rcases h1 with h1|h1
         ·exact (H.out.m.sep k h1).2 h
         ·have:=HOW.out k h
          omega
        ·omega)).trans (HS911.out k h1 h2))
       have HM12:=z_ hMA
       have HX12:=z_ (And.intro hs1 (And.intro gx1 go1))
       have HK12:=z_ (And.intro hk1 hl1)
       clear hout hA hMA hs1 gx1 go1 hk1 hl1 hcA hnA hZ3 hZ4 hl11 hng hown
       have hsp:SpB w12 g3 [.slice Af nf cf,.int .i64 s.at_,.bool s.node.f0,.slice E1 s.node.f1.length e1,.slice E2 s.node.f2.length e2,.int .i64 s.node.f3,.int .i64 s.node.f4,.slice E5 s.node.f5.length e5,.int .i64 s.node.f6,.int .i64 s.node.f7,.int .i64 s.node.f8,.slice E9 s.node.f9.length e9,.bool s.same]:=(HS12.out g3 (.inr (by have:=HLT.out;omega)) (by have:=HLT.out;omega)).trans HSP9.out
       obtain ⟨z0,z1,z2,z3,z4,z5,z6,z7,z8,z9,z10,z11,z12⟩:=hsp.cells
       have kn:=blk_cell HBN12.out 0
       simp at kn
       have fn:=blk_frozen HBN12.out 0
       have hne:g3≠gn:=by have:=HLT.out;have:=HGL.out;omega
       have hne2:gn≠g3:=hne.symm
       clear hsp
       go_wp2_with fail
       clear z0 z1 z2 z3 z4 z5 z6 z7 z8 z9 z10 z11 z12 kn fn hne hne2
       obtain ⟨wA,hwA⟩ : ∃x,x=w12.setCell ⟨gn,0,none⟩ (.int .i64 nA):=⟨_,rfl⟩
       have hset : ∀k,k≠gn->wA.heap[k]? = w12.heap[k]? := fun k hk=>by rw [hwA];exact Below.heap_setCell _ ⟨gn,0,none⟩ _ k hk
       have hBA:Below base w12 wA:=by rw [hwA];exact Below.setCell (Below.refl base w12) (by have:=HGL.out;have:=HLT.out;have:=HBU.out;show base<=gn;omega) _
       have hzA:=hBA.size
       have hgA : ¬OwnS p vcA vfA gn/\¬XA gn:=by
        refine ⟨fun ho=>?_,fun hx=>?_⟩
        ·rcases HX12.out.2.2 gn ho with h|h
         ·have:=HM10.out.own gn h
          have:=HGL.out
          omega
         ·have:=HGL.out
          omega
        ·rcases HX12.out.2.1 gn hx with (h|h)|h
         ·have:=(HM10.out.sep gn h).1
          have:=HGL.out
          omega
         ·have:=HGL.out
          have:=HLT.out
          omega
         ·have:=HGL.out
          omega
       have HMA:=z_ (show ArenaM wA base p size room vcA vfA XA cA from HM12.out.step hzA (fun k _ ho=>hset k (fun e=>by
        subst e
        rcases ho with ho|ho
        ·exact hgA.1 ho
        ·exact hgA.2 ho)) (fun _ hx=>hx) (fun k hx=>⟨Nat.lt_of_lt_of_le (HM12.out.sep k hx).1 hzA,(HM12.out.sep k hx).2⟩))
       have HXA:=z_ (show (∀k,X k->XA k)/\Grew w X XA/\(∀k,OwnS p vcA vfA k->OwnS p vc vf k\/w9.heap.size<=k) from by
        have h5:=HLT.out
        have h6:=HB11.out.size
        have h7:=HB9.out.size
        refine ⟨fun k hk=>HX12.out.1 k (.inl (HX10.out.1 k hk)),fun k hk=>?_,fun k hk=>?_⟩
        ·rcases HX12.out.2.1 k hk with (h|h)|h
         ·exact (HX10.out.2.1 k h).elim .inl (fun h=>.inr (by omega))
         ·exact .inr h.1
         ·exact .inr (by omega)
        ·rcases HX12.out.2.2 k hk with h|h
         ·exact HX10.out.2.2 k h
         ·exact .inr (by omega))
       have HKA:=z_ (show Kept w wA (OwnS p vc vf)/\Below base w wA/\w10.heap.size<=wA.heap.size from by
        have h5:=HLT.out
        have h6:=HB11.out.size
        have h7:=HB9.out.size
        have h8:=HK12.out.1.1
        refine ⟨⟨by omega,fun k hk ho=>?_⟩,HL11.out.trans (HK12.out.2.trans hBA),by omega⟩
        have hno : ¬OwnS p vc1 vf1 k:=fun h=>(HX10.out.2.2 k h).elim ho (fun h=>by omega)
        exact (hset k (by have:=HGL.out;omega)).trans ((HK12.out.1.2 k (by omega) hno).trans ((HB11.out.block k (by omega)).trans ((HK10.out.1.2 k (by omega) ho).trans (HB9.out.block k hk)))))
       have HSMA:=z_ (show ∀k,X k\/w.heap.size<=k->k<w9.heap.size->wA.heap[k]? = w9.heap[k]? from fun k h1 h2=>(hset k (by have:=HGL.out;have:=HLT.out;omega)).trans (HS12.out k h1 h2))
       have HBNA:=z_ (show wA.heap[gn]? = some (.cells #[.int .i64 nA] 3 (0,0))/\¬OwnS p vcA vfA gn/\¬XA gn/\w10.heap.size=gn from ⟨by rw [hwA];exact blk_set HBN12.out 0 _,hgA.1,hgA.2,HGN.out.symm⟩)
       have HBXA:=z_ (show wA.heap[g0]? = some (.cells #[.pointer (some ⟨p,0,none⟩)] 25 (0,0))/\wA.heap[gr]? = some (.cells #[.slice Ak row.length ck] 23 (0,0)) from
        ⟨(HSMA.out g0 (.inr (by have:=HLT.out;omega)) (by have:=HLT.out;omega)).trans HBX9.out,(HSMA.out gr (.inr (by have:=HLT.out;omega)) (by have:=HLT.out;omega)).trans HBR9.out⟩)
       rw [<-hwA]
       clear hwA hset hBA hzA hgA
     | replace hsm:(findO (keyB id) id root t0).same=true:=hsm
       rw [<-HS.out] at hat hsm
       have a1:(s.at_ != -1)=true:=by simp [hat]
       have HSTA:=z_ (show insStart size row id key since s cs=(c0,n0) from by unfold insStart;rw [if_neg (fun h=>by rw [hsm] at h;cases h.2),<-HC0.out.1,<-HC0.out.2])
       clear hat
       have hsp:SpB (w10.alloc (.cells #[.int .i64 n0] 3)) g3 [.slice Af nf cf,.int .i64 s.at_,.bool s.node.f0,.slice E1 s.node.f1.length e1,.slice E2 s.node.f2.length e2,.int .i64 s.node.f3,.int .i64 s.node.f4,.slice E5 s.node.f5.length e5,.int .i64 s.node.f6,.int .i64 s.node.f7,.int .i64 s.node.f8,.slice E9 s.node.f9.length e9,.bool s.same]:=by rw [<-hw11];exact HSP11.out
       obtain ⟨z0,z1,z2,z3,z4,z5,z6,z7,z8,z9,z10,z11,z12⟩:=hsp.cells
       clear hsp
       go_wp2_with fail
       rw [<-hw11]
       clear z0 z1 z2 z3 z4 z5 z6 z7 z8 z9 z10 z11 z12 a1 hsm hw11
       obtain ⟨gn,hgn⟩ : ∃g,g=w10.heap.size:=⟨_,rfl⟩
       rw [<-hgn] at HBN11
       rw [<-hgn]
       have HGN:=z_ hgn
       clear hgn
       obtain ⟨wA,hwA⟩ : ∃x,x=w11:=⟨_,rfl⟩
       obtain ⟨vcA,hvcA⟩ : ∃x,x=vc1:=⟨_,rfl⟩
       obtain ⟨vfA,hvfA⟩ : ∃x,x=vf1:=⟨_,rfl⟩
       obtain ⟨XA,hXA⟩ : ∃x,x=X1:=⟨_,rfl⟩
       obtain ⟨cA,hcA⟩ : ∃x,x=c0:=⟨_,rfl⟩
       obtain ⟨nA,hnA⟩ : ∃x,x=n0:=⟨_,rfl⟩
       rw [<-hcA,<-hnA] at HSTA
       have HMA:=z_ (show ArenaM wA base p size room vcA vfA XA cA from by rw [hwA,hvcA,hvfA,hXA,hcA];exact HM10.out.below HB11.out)
       have HXA:=z_ (show (∀k,X k->XA k)/\Grew w X XA/\(∀k,OwnS p vcA vfA k->OwnS p vc vf k\/w9.heap.size<=k) from by
        rw [hvcA,hvfA,hXA]
        exact ⟨HX10.out.1,fun k hk=>(HX10.out.2.1 k hk).elim .inl (fun h=>.inr (by have:=HB9.out.size;omega)),HX10.out.2.2⟩)
       have HKA:=z_ (show Kept w wA (OwnS p vc vf)/\Below base w wA/\w10.heap.size<=wA.heap.size from by
        rw [hwA]
        refine ⟨⟨by have:=HB9.out.size;have:=HK10.out.1.1;have:=HB11.out.size;omega,fun k hk ho=>?_⟩,((HB9.out.mono HBU.out.1).trans HK10.out.2).trans (HB11.out.mono (by have:=HB9.out.size;have:=HK10.out.1.1;have:=HBU.out;omega)),HB11.out.size⟩
        have h1:=HB9.out.size
        exact (HB11.out.block k (by have:=HK10.out.1.1;omega)).trans ((HK10.out.1.2 k (by omega) ho).trans (HB9.out.block k hk)))
       have HSMA:=z_ (show ∀k,X k\/w.heap.size<=k->k<w9.heap.size->wA.heap[k]? = w9.heap[k]? from fun k h1 h2=>by
        rw [hwA]
        exact (HB11.out.block k (by have:=HK10.out.1.1;omega)).trans (HSM10.out k h1 h2))
       have HBNA:=z_ (show wA.heap[gn]? = some (.cells #[.int .i64 nA] 3 (0,0))/\¬OwnS p vcA vfA gn/\¬XA gn/\w10.heap.size=gn from by
        rw [hwA,hvcA,hvfA,hXA,hnA]
        refine ⟨HBN11.out,fun ho=>?_,fun hx=>?_,HGN.out.symm⟩
        ·have:=HM10.out.own gn ho
         have:=HGN.out
         omega
        ·have:=(HM10.out.sep gn hx).1
         have:=HGN.out
         omega)
       have HBXA:=z_ (show wA.heap[g0]? = some (.cells #[.pointer (some ⟨p,0,none⟩)] 25 (0,0))/\wA.heap[gr]? = some (.cells #[.slice Ak row.length ck] 23 (0,0)) from by rw [hwA];exact ⟨HBX11.out,HBR11.out⟩)
       rw [<-hwA,<-hnA]
       clear hwA hvcA hvfA hXA hcA hnA
 all_goals
  have HFA:=z_ (show ForksM wA w2.heap.size (.slice Af nf cf) Z s.forks from HF.out.step (by have:=HLT.out;have:=HKA.out.2.2;omega) (fun k hk hz=>by
   have hk9:w9.heap[k]? = w3.heap[k]? := HB93.out.block k hk
   refine (HSMA.out k ?_ (by have:=HLT.out;omega)).trans hk9
   rcases hz with hz|hz
   ·rcases HZ.out k hz with h1|h1
    ·exact .inl h1
    ·exact .inr (by have:=HB2.out.size;omega)
   ·obtain ⟨rows,hR,_⟩:=HF.out.mem
    have:=Kd.R_base hR k hz.symm
    exact .inr (by have:=HB2.out.size;omega)))
  refine (backward_calls Af nf cf _).mono ?_
  rintro e w' ⟨rfl,rfl⟩
  obtain ⟨wL,hwL⟩ : ∃wL,wL=wA.alloc (.cells #[.slice Af nf cf] 54):=⟨_,rfl⟩
  have HBL:=z_ (show Below wA.heap.size wA wL from by rw [hwL];exact below_alloc (Below.refl _ _) _)
  have HSZL:=z_ (show wL.heap.size=wA.heap.size+1 from by rw [hwL];simp)
  have HBB:=z_ (show wL.heap[wA.heap.size]? = some (.cells #[.slice Af nf cf] 54 (0,0)) from by rw [hwL];exact heap_alloc_new wA _)
  go_wp2_with fail
  rw [<-hwL]
  clear hwL
  obtain ⟨gB,hgB⟩ : ∃g,g=wA.heap.size:=⟨_,rfl⟩
  rw [<-hgB] at HBB HSZL
  rw [<-hgB]
  have HGB:=z_ hgB
  clear hgB
  have hbb:=blk_cell HBB.out 0
  simp at hbb
  obtain ⟨rows,hnr,hrl,hra,hro,hrb⟩:=(HFA.out.below HBL.out).rowsAt gB hbb
  subst hnr
  have HRA:=z_ hra
  have HRO:=z_ hro
  have HRB:=z_ (And.intro hrl hrb)
  have HOKF:=z_ (show okF size room row s.forks.reverse cA nA from by
   have:=HIO.out.forks
   rw [<-HS.out,<-HRW.out,HSTA.out] at this
   exact this)
  clear hbb hra hro hrl hrb
  obtain ⟨X0,hX0⟩ : ∃X0:Nat->Prop,X0=fun k=>XA k\/(w.heap.size<=k/\k<wL.heap.size/\k≠gn/\¬OwnS p vcA vfA k):=⟨_,rfl⟩
  have HML:=z_ (show ArenaM wL base p size room vcA vfA X0 cA from by rw [hX0];exact (HMA.out.below HBL.out).more _ (fun k hk=>⟨hk.2.1,hk.2.2.2⟩))
  have HX0:=z_ (show (∀k,XA k->X0 k)/\(∀k,w.heap.size<=k->k<wL.heap.size->k≠gn->¬OwnS p vcA vfA k->X0 k)/\(∀k,X0 k->XA k\/(w.heap.size<=k/\k<wL.heap.size/\k≠gn)) from by
   rw [hX0]
   exact ⟨fun k hk=>.inl hk,fun k h1 h2 h3 h4=>.inr ⟨h1,h2,h3,h4⟩,fun k hk=>hk.elim .inl (fun h=>.inr ⟨h.1,h.2.1,h.2.2.1⟩)⟩)
  clear hX0
  have HNX:=z_ (show ∀k,w.heap.size<=k->k<w9.heap.size->X0 k from fun k h1 h2=>by
   have h5:=HLT.out
   have h6:=HBNA.out.2.2.2
   have h7:=HKA.out.2.2
   refine HX0.out.2.1 k h1 (by have:=HBL.out.size;omega) (by omega) (fun ho=>?_)
   rcases HXA.out.2.2 k ho with h|h
   ·have:=HOW.out k h
    omega
   ·omega)
  have HGX:=z_ (show X0 gB/\X0 g0/\X0 gr/\gn<wL.heap.size/\(∀k,Z k->X0 k)/\(∀k,w.heap.size<=k/\k<w8.heap.size->X0 k) from by
   have h5:=HLT.out
   have h6:=HBNA.out.2.2.2
   have h7:=HKA.out.2.2
   have h8:=HGB.out
   have h9:=HB98.out.size
   have h10:=blk_lt HBNA.out.1
   refine ⟨HX0.out.2.1 gB (by omega) (by have:=HSZL.out;omega) (by omega) (fun ho=>by have:=HMA.out.own gB ho;omega),HNX.out g0 (by omega) (by omega),HNX.out gr (by omega) (by omega),by have:=HSZL.out;omega,fun k hk=>?_,fun k hk=>HNX.out k hk.1 (by omega)⟩
   rcases HZ.out k hk with h|h
   ·exact HX0.out.1 k (HXA.out.1 k h)
   ·exact HNX.out k (by have:=HB2.out.size;omega) (by have:=(HF.out.sep k hk).1;omega))
  have HI0:=z_ (show InsI w wL base p size room vc vf X X0 gn cA nA wL from by
   have h5:=HBU.out.1
   have h6:=HKA.out.1.1
   have h7:=HBL.out.size
   refine ⟨⟨vcA,vfA,X0,HML.out,fun _ h=>h,fun k hk=>?_,fun k hk=>(HXA.out.2.2 k hk).imp (fun h=>h) (fun h=>by have:=HB9.out.size;omega),fun k hk=>?_⟩,⟨by omega,fun k hk ho=>(HBL.out.block k (by omega)).trans (HKA.out.1.2 k hk ho)⟩,HKA.out.2.1.trans (HBL.out.mono (by omega)),fun _ _=>rfl,fun k hk=>(HML.out.sep k hk).1,Nat.le_refl _,blk_below HBNA.out.1 HBL.out,⟨HGX.out.2.2.2.1,?_⟩,by omega,h5⟩
   ·rcases HX0.out.2.2 k hk with h|h
    ·exact HXA.out.2.1 k h
    ·exact .inr h.1
   ·have h8 : ∀k,wL.heap.size<=k->¬OwnS p vcA vfA k/\¬X0 k:=fun k hk=>⟨fun ho=>by have:=HML.out.own k ho;omega,fun hx=>by have:=(HML.out.sep k hx).1;omega⟩
    rcases hk with rfl|rfl|rfl
    ·exact h8 _ (Nat.le_refl _)
    ·exact h8 _ (by omega)
    ·refine ⟨HBNA.out.2.1,fun hx=>?_⟩
     rcases HX0.out.2.2 _ hx with h|h
     ·exact HBNA.out.2.2.1 h
     ·exact h.2.2 rfl
   ·have:=HBNA.out.2.2.2
    have:=HLT.out
    omega)
  have HVL:=z_ (show BX wL X0 (.slice Ak row.length ck) row from Kd.V_mono (Kd.V_step HVR.out (fun k hk _=>(HBL.out.block k (by have:=HKA.out.2.2;have:=HLT.out;have:=HB98.out.size;omega)).trans ((HSMA.out k (.inr hk.1) (by have:=HB98.out.size;omega)).trans (HB98.out.block k hk.2)))) (fun k hk=>HGX.out.2.2.2.2.2 k hk))
  have HBRL:=z_ (show wL.heap[gr]? = some (.cells #[.slice Ak row.length ck] 23 (0,0)) from blk_below HBXA.out.2 HBL.out)
  have HBXL:=z_ (show wL.heap[g0]? = some (.cells #[.pointer (some ⟨p,0,none⟩)] 25 (0,0)) from blk_below HBXA.out.1 HBL.out)
  have HGA:=z_ (show ∀k,some k=(Value.slice Af rows.length cf).ownBlock->X0 k from fun k hk=>by
   obtain ⟨rows',hR,_⟩:=HF.out.mem
   have h1:=Kd.R_base hR k hk.symm
   have h2:=Kd.R_lt hR k hk.symm
   have h3:=HB2.out.size
   have h4:=HLT.out
   exact HNX.out k (by omega) (by omega))
  refine wpIn_wide.1 (forEach (F:=Fence.wide) (n:=5) rfl (by omega) (gf:=61) (lb:=#[.pointer (some ⟨gB,0,none⟩)]) rfl trivial (enters_of Tryz.func61 (by kernel_rfl) rfl) (back_gives 4 gB Af cf rows (by omega) (by have:=HNF.out.2;omega)) (fun _=>rfl)
   (fun pre W=>InsI w wL base p size room vc vf X X0 gn (insF size row (s.forks.reverse.take pre.length) cA nA).1 (insF size row (s.forks.reverse.take pre.length) cA nA).2 W) ?hK (fun pre W W' h hb=>h.below hb) (fun pre W o hlt h=>h.turn o hlt) (by simpa [insF] using HI0.out) ?hbody ?hdone)
  case hK=>
   intro pre W hI
   refine ⟨(cell_same (hI.fixd gB HGX.out.1)).trans HRA.out.box,fun k hk=>?_⟩
   obtain ⟨h1,g,rfl,h3⟩:=HRA.out.row k hk
   exact ⟨h1,g,rfl,fun j u hu=>(cell_same (hI.fixd g (HGA.out g rfl))).trans (h3 j u hu)⟩
  case hbody=>
   intro l pre x W hl hlt hI hx
   obtain ⟨hj,rfl⟩:=backs_at rows _ pre x hx
   obtain ⟨k,hk⟩ : ∃k,k=rows.length-1-pre.length:=⟨_,rfl⟩
   rw [<-hk]
   have hkl:k<rows.length:=by omega
   have hrk:rows[k]? = some (rows.getD k []):=by
    rw [List.getD_eq_getElem?_getD,List.getElem?_eq_getElem hkl]
    rfl
   obtain ⟨n,hn⟩ : ∃n,s.forks[k]? = some n:=⟨_,List.getElem?_eq_getElem (by have:=HRB.out.1;omega)⟩
   have HY:=z_ (HRO.out k n _ hn hrk)
   obtain ⟨G1,G2,G5,G9,q1,q2,q5,q9,hr,y1,y2,y5,y9⟩:=HY.out
   have HST:=z_ (okF_at HOKF.out pre.length n (by rw [rev_at _ _ (by have:=HRB.out.1;omega),<-hn];congr 1;have:=HRB.out.1;omega))
   rw [hr]
   have HI:=z_ hI
   have HY5:=z_ y5
   have HLL:=z_ (And.intro hl hlt)
   clear hI hx hj hk hkl hrk hn HY hr y1 y2 y5 y9 hl hlt
   gi_wp2
   refine ⟨fun k hk=>(below_alloc (Below.refl W.heap.size W) _).block k (by have:=HLL.out.2;rcases hk with rfl|rfl<;>omega),HI.out.below (below_alloc (Below.refl _ _) _),fun o=>?_⟩
   obtain ⟨W2,hW2⟩ : ∃W2,W2=(W.alloc (.cells #[.bool n.f0,.slice G1 n.f1.length q1,.slice G2 n.f2.length q2,.int .i64 n.f3,.int .i64 n.f4,.slice G5 n.f5.length q5,.int .i64 n.f6,.int .i64 n.f7,.int .i64 n.f8,.slice G9 n.f9.length q9] 59)).putObj l o:=⟨_,rfl⟩
   have HI2:=z_ (show InsI w wL base p size room vc vf X X0 gn (insF size row (s.forks.reverse.take pre.length) cA nA).1 (insF size row (s.forks.reverse.take pre.length) cA nA).2 W2 from by
    rw [hW2,HLL.out.1]
    exact (HI.out.below (below_alloc (Below.refl _ _) _)).turn o (by have:=HLL.out.2;simp;omega))
   have HN2:=z_ (show NdB W2 W.heap.size [.bool n.f0,.slice G1 n.f1.length q1,.slice G2 n.f2.length q2,.int .i64 n.f3,.int .i64 n.f4,.slice G5 n.f5.length q5,.int .i64 n.f6,.int .i64 n.f7,.int .i64 n.f8,.slice G9 n.f9.length q9] from by
    rw [hW2]
    exact (World.putObj_heap_other (by have:=HLL.out.1;have:=HLL.out.2;omega)).trans (heap_alloc_new W _))
   have HSZ2:=z_ (show W2.heap.size=W.heap.size+1 from by rw [hW2,World.putObj_size];simp)
   have HK2:=z_ (show ∀k,k<W.heap.size->k≠wL.heap.size+1->W2.heap[k]? = W.heap[k]? from fun k h1 h2=>by
    rw [hW2]
    exact (World.putObj_heap_other (by have:=HLL.out.1;omega)).trans ((below_alloc (Below.refl W.heap.size W) _).block k h1))
   rw [<-hW2]
   clear hW2
   obtain ⟨gq,hgq⟩ : ∃g,g=W.heap.size:=⟨_,rfl⟩
   rw [<-hgq] at HN2
   rw [<-hgq]
   have HGE:=z_ hgq
   have HGQ:=z_ (show wL.heap.size+1<gq/\gq<W2.heap.size from ⟨by rw [hgq];exact HLL.out.2,by rw [hgq,HSZ2.out];omega⟩)
   clear hgq
   have HBR2:=z_ (show W2.heap[gr]? = some (.cells #[.slice Ak row.length ck] 23 (0,0)) from (HI2.out.fixd gr HGX.out.2.2.1).trans HBRL.out)
   have kr:=blk_cell HBR2.out 0
   simp at kr
   obtain ⟨m0,m1,m2,m3,m4,m5,m6,m7,m8,m9⟩:=HN2.out.cells
   gi_wp2_with fail
   refine ⟨trivial,(CallsIn.inRound l (callsIn_wide.2 (bits_Bit.calls 1 Ak ck row n.f4 (bitP row n.f4) W2 (Kd.V_reads' (Kd.V_step HVL.out (fun k hk _=>HI2.out.fixd k hk))).2.2 (Kd.V_reads' HVL.out).2.1 (bit_f 0 row n.f4)))).mono ?_⟩
   rintro e W3 ⟨rfl,hdr⟩
   have hbW:Below W2.heap.size W2 W3:=hdr.below
   have HB3':=z_ hbW
   have HI3:=z_ (HI2.out.below hbW)
   have HN3:=z_ (HN2.out.below hbW)
   clear hdr hbW kr m0 m1 m2 m3 m4 m5 m6 m7 m8 m9
   obtain ⟨cj,hcj⟩ : ∃c,c=(insF size row (s.forks.reverse.take pre.length) cA nA).1:=⟨_,rfl⟩
   obtain ⟨nj,hnj⟩ : ∃c,c=(insF size row (s.forks.reverse.take pre.length) cA nA).2:=⟨_,rfl⟩
   rw [<-hcj,<-hnj] at HI HI2 HI3 HST
   have HCJ:=z_ (And.intro hcj hnj)
   clear hcj hnj
   obtain ⟨m0,m1,m2,m3,m4,m5,m6,m7,m8,m9⟩:=HN3.out.cells
   obtain ⟨f0,f1,f2,f3,f4,f5,f6,f7,f8,f9⟩:=HN3.out.frozen
   have kn:=blk_cell HI3.out.now 0
   simp at kn
   have HBX3':=z_ (show W3.heap[g0]? = some (.cells #[.pointer (some ⟨p,0,none⟩)] 25 (0,0)) from (HI3.out.fixd g0 HGX.out.2.1).trans HBXL.out)
   have k0:=blk_cell HBX3'.out 0
   simp at k0
   have hne:g0≠gq:=by have:=HI.out.xl g0 HGX.out.2.1;have:=HGQ.out;omega
   have hne2:gq≠g0:=hne.symm
   by_cases hbit:bitP row n.f4=1
   ·have hb1:(bitP row n.f4==1)=true:=by rw [hbit];rfl
    have HSD:=z_ (show sideL row n nj=n.f7/\sideR row n nj=nj from ⟨by unfold sideL;rw [if_pos hbit],by unfold sideR;rw [if_pos hbit]⟩)
    clear hbit
    gi_wp2_with fail
    obtain ⟨vcj,vfj,Xj,hM,i1,i2,i3,i4⟩:=HI.out.m
    have HIJ:=z_ (And.intro i1 (And.intro i2 (And.intro i3 i4)))
    obtain ⟨W4,hW4⟩ : ∃W4,W4=W3.setCell ⟨gq,8,none⟩ (.int .i64 nj):=⟨_,rfl⟩
    have HB4':=z_ (show W3.heap.size<=W4.heap.size/\(∀k,k≠gq->W4.heap[k]? = W3.heap[k]?)/\Below base w W4 from by
     rw [hW4]
     have h1:Below base W3 (W3.setCell ⟨gq,8,none⟩ (.int .i64 nj)):=Below.setCell (Below.refl base W3) (by have:=HGQ.out;have:=HI.out.wl;have:=HI.out.bl;show base<=gq;omega) _
     exact ⟨h1.size,fun k hk=>Below.heap_setCell _ ⟨gq,8,none⟩ _ k hk,HI3.out.low.trans h1⟩)
    rw [<-hW4]
    clear hW4 m0 m1 m2 m3 m4 m5 m6 m7 m8 m9 f0 f1 f2 f3 f4 f5 f6 f7 f8 f9 kn k0 i1 i2 i3 i4
    have HK4:=z_ (show ∀k,k<W.heap.size->k≠wL.heap.size+1->W4.heap[k]? = W.heap[k]? from fun k h1 h2=>(HB4'.out.2.1 k (by have:=HGE.out;omega)).trans ((HB3'.out.block k (by have:=HSZ2.out;omega)).trans (HK2.out k h1 h2)))
    have HS4:=z_ (show W.heap.size<=W4.heap.size from by have:=HSZ2.out;have:=HB3'.out.size;have:=HB4'.out.1;omega)
    have HM4:=z_ (show ArenaM W4 base p size room vcj vfj Xj cj from hM.step HS4.out (fun k hk ho=>HK4.out k hk (fun e=>by
     have:=HIJ.out.2.2.2 k (.inr (.inl e))
     rcases ho with ho|ho
     ·exact this.1 ho
     ·exact this.2 ho)) (fun _ h=>h) (fun k hx=>⟨Nat.lt_of_lt_of_le (hM.sep k hx).1 HS4.out,(hM.sep k hx).2⟩))
    have HF4:=z_ (show ∀k,X0 k->W4.heap[k]? = wL.heap[k]? from fun k hx=>(HB4'.out.2.1 k (by have:=HI.out.xl k hx;have:=HGQ.out;omega)).trans (HI3.out.fixd k hx))
    clear hM
    refine ⟨trivial,(CallsIn.inRound l (callsIn_wide.2 (fork_calls HM4.out G5 q5 n.f5 n.f4 n.f7 nj (Kd.V_mono (Kd.V_step HY5.out (fun k hk _=>HF4.out k (HGX.out.2.2.2.2.1 k hk))) (fun k hk=>HIJ.out.1 k (HGX.out.2.2.2.2.1 k hk))) (H.out.g W4 HB4'.out.2.2)))).mono ?_⟩
    rintro e W5 hp
    obtain ⟨rfl,hA⟩:=hp.ok (by have:=HST.out.1.1;rwa [HSD.out.1,HSD.out.2] at this) HST.out.1.2
    obtain ⟨hn5,hI6,hk6⟩:=HI.out.put HM4.out HIJ.out.1 HIJ.out.2.1 HIJ.out.2.2.1 HIJ.out.2.2.2 HLL.out.2 HS4.out HK4.out HB4'.out.2.2 hA (lowN cj:Int)
    have HE6:=z_ (And.intro hI6 hk6)
    have kn5:=blk_cell hn5 0
    simp at kn5
    have fn5:=blk_frozen hn5 0
    clear hp hA hI6 hk6 hn5
    gi_wp2_with fail
    refine ⟨fun k hk=>(HE6.out.2 k hk).trans ((HB4'.out.2.1 k (by have:=HGQ.out;rcases hk with rfl|rfl<;>omega)).trans (HB3'.out.block k (by have:=HGQ.out;rcases hk with rfl|rfl<;>omega))),?_⟩
    have hlen : ∀y:Int×List Value,(pre++[y]).length=pre.length+1:=fun y=>by simp
    have hst:=HST.out.2
    have hpf:putF size row cj nj n=putC cj (forkOf size cj n.f4 n.f5 n.f7 nj):=by unfold putF;rw [HSD.out.1,HSD.out.2]
    show InsI w wL base p size room vc vf X X0 gn (insF size row (s.forks.reverse.take (pre++[_]).length) cA nA).1 (insF size row (s.forks.reverse.take (pre++[_]).length) cA nA).2 _
    rw [hlen,hst,hpf]
    exact HE6.out.1
   ·have hb1:(bitP row n.f4==1)=false:=by simpa using hbit
    have HSD:=z_ (show sideL row n nj=nj/\sideR row n nj=n.f8 from ⟨by unfold sideL;rw [if_neg hbit],by unfold sideR;rw [if_neg hbit]⟩)
    clear hbit
    gi_wp2_with fail
    obtain ⟨vcj,vfj,Xj,hM,i1,i2,i3,i4⟩:=HI.out.m
    have HIJ:=z_ (And.intro i1 (And.intro i2 (And.intro i3 i4)))
    obtain ⟨W4,hW4⟩ : ∃W4,W4=W3.setCell ⟨gq,7,none⟩ (.int .i64 nj):=⟨_,rfl⟩
    have HB4':=z_ (show W3.heap.size<=W4.heap.size/\(∀k,k≠gq->W4.heap[k]? = W3.heap[k]?)/\Below base w W4 from by
     rw [hW4]
     have h1:Below base W3 (W3.setCell ⟨gq,7,none⟩ (.int .i64 nj)):=Below.setCell (Below.refl base W3) (by have:=HGQ.out;have:=HI.out.wl;have:=HI.out.bl;show base<=gq;omega) _
     exact ⟨h1.size,fun k hk=>Below.heap_setCell _ ⟨gq,7,none⟩ _ k hk,HI3.out.low.trans h1⟩)
    rw [<-hW4]
    clear hW4 m0 m1 m2 m3 m4 m5 m6 m7 m8 m9 f0 f1 f2 f3 f4 f5 f6 f7 f8 f9 kn k0 i1 i2 i3 i4
    have HK4:=z_ (show ∀k,k<W.heap.size->k≠wL.heap.size+1->W4.heap[k]? = W.heap[k]? from fun k h1 h2=>(HB4'.out.2.1 k (by have:=HGE.out;omega)).trans ((HB3'.out.block k (by have:=HSZ2.out;omega)).trans (HK2.out k h1 h2)))
    have HS4:=z_ (show W.heap.size<=W4.heap.size from by have:=HSZ2.out;have:=HB3'.out.size;have:=HB4'.out.1;omega)
    have HM4:=z_ (show ArenaM W4 base p size room vcj vfj Xj cj from hM.step HS4.out (fun k hk ho=>HK4.out k hk (fun e=>by
     have:=HIJ.out.2.2.2 k (.inr (.inl e))
     rcases ho with ho|ho
     ·exact this.1 ho
     ·exact this.2 ho)) (fun _ h=>h) (fun k hx=>⟨Nat.lt_of_lt_of_le (hM.sep k hx).1 HS4.out,(hM.sep k hx).2⟩))
    have HF4:=z_ (show ∀k,X0 k->W4.heap[k]? = wL.heap[k]? from fun k hx=>(HB4'.out.2.1 k (by have:=HI.out.xl k hx;have:=HGQ.out;omega)).trans (HI3.out.fixd k hx))
    clear hM
    refine ⟨trivial,(CallsIn.inRound l (callsIn_wide.2 (fork_calls HM4.out G5 q5 n.f5 n.f4 nj n.f8 (Kd.V_mono (Kd.V_step HY5.out (fun k hk _=>HF4.out k (HGX.out.2.2.2.2.1 k hk))) (fun k hk=>HIJ.out.1 k (HGX.out.2.2.2.2.1 k hk))) (H.out.g W4 HB4'.out.2.2)))).mono ?_⟩
    rintro e W5 hp
    obtain ⟨rfl,hA⟩:=hp.ok (by have:=HST.out.1.1;rwa [HSD.out.1,HSD.out.2] at this) HST.out.1.2
    obtain ⟨hn5,hI6,hk6⟩:=HI.out.put HM4.out HIJ.out.1 HIJ.out.2.1 HIJ.out.2.2.1 HIJ.out.2.2.2 HLL.out.2 HS4.out HK4.out HB4'.out.2.2 hA (lowN cj:Int)
    have HE6:=z_ (And.intro hI6 hk6)
    have kn5:=blk_cell hn5 0
    simp at kn5
    have fn5:=blk_frozen hn5 0
    clear hp hA hI6 hk6 hn5
    gi_wp2_with fail
    refine ⟨fun k hk=>(HE6.out.2 k hk).trans ((HB4'.out.2.1 k (by have:=HGQ.out;rcases hk with rfl|rfl<;>omega)).trans (HB3'.out.block k (by have:=HGQ.out;rcases hk with rfl|rfl<;>omega))),?_⟩
    have hlen : ∀y:Int×List Value,(pre++[y]).length=pre.length+1:=fun y=>by simp
    have hst:=HST.out.2
    have hpf:putF size row cj nj n=putC cj (forkOf size cj n.f4 n.f5 nj n.f8):=by unfold putF;rw [HSD.out.1,HSD.out.2]
    show InsI w wL base p size room vc vf X X0 gn (insF size row (s.forks.reverse.take (pre++[_]).length) cA nA).1 (insF size row (s.forks.reverse.take (pre++[_]).length) cA nA).2 _
    rw [hlen,hst,hpf]
    exact HE6.out.1
  case hdone=>
   intro W hI hd
   have hfull:s.forks.reverse.take (backs rows rows.length).length=s.forks.reverse:=by
    rw [backs_length]
    exact List.take_of_length_le (by rw [List.length_reverse];have:=HRB.out.1;omega)
   have hI':InsI w wL base p size room vc vf X X0 gn (insF size row (s.forks.reverse.take (backs rows rows.length).length) cA nA).1 (insF size row (s.forks.reverse.take (backs rows rows.length).length) cA nA).2 W:=hI
   rw [hfull] at hI'
   have HIE:=z_ hI'
   have kn:=blk_cell hI'.now 0
   simp at kn
   clear hI hI' hfull
   have HDD:=z_ hd
   have HALL:=z_ (show insAll size (keyB id) id key since (findO (keyB id) id root t0) cs=insF size row s.forks.reverse cA nA from by
    unfold insAll
    rw [<-HS.out,<-HRW.out,HSTA.out])
   clear hd
   go_wp2_with fail
   rw [HALL.out]
   refine (show LeavesInM Fence.wide 5 Tryz.prog Tryz.f9 _ _ _ _ _ from ⟨by simp,.inl ⟨_,_,rfl,run_takeDeferred HDD.out,?_⟩⟩)
   exact ⟨.tuple #[.int .i64 (insF size row s.forks.reverse cA nA).2,.int .i64 0],by simp [results,Tryz.results9,go_sem],rfl,HIE.out.fin _ (heap_some_lt HDD.out)⟩
end Go.Proofs.YtdeneoknjeegbaaGreatDoor.P
end
