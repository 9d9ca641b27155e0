/- Lemmas of this claim, part 15. -/
import Derived.Test.YtdeneoknjeegbaaGreatDoorPartPtreeLives13
import Derived.Test.YtdeneoknjeegbaaGreatDoorPartPtreeLives14
set_option linter.unusedVariables false
set_option linter.unusedSimpArgs false
section
namespace Go.Proofs.YtdeneoknjeegbaaGreatDoor.P
open Go Go.RowKit YtdeneoknjeegbaaGreatDoor.Pure YtdeneoknjeegbaaGreatDoorW.PrintWords YtdeneoknjeegbaaGreatDoorW.PrintLast YtdeneoknjeegbaaGreatDoorW.PrintMore
theorem insF_ext (size:Int) (row:List Int) : ∀(fs:List Nd) (cs:Cs) (now:Int),Ext cs (insF size row fs cs now).1
 | [],cs,now=>Ext.refl _
 | n :: fs,cs,now=>(ext_put _ _).trans (insF_ext size row fs _ _)
theorem insF_ok {size room:Int} {row:List Int} : ∀ {fs:List Nd} {cs:Cs} {now:Int},CsOk cs->okF size room row fs cs now->∀j,CsOk (insF size row (fs.take j) cs now).1
 | [],cs,now,h,_,j=>by simpa [insF] using h
 | n :: fs,cs,now,h,_,0=>by simpa [insF] using h
 | n :: fs,cs,now,h,k,j+1=>by
   simp only [List.take_succ_cons,insF]
   exact insF_ok (h.put (forkOf_ok _ _ _ _ _ k.1.1)) k.2 j
theorem insStart_ext (size:Int) (row id key:List Int) (since:Int) (s:Spot) (cs:Cs):Ext cs (insStart size row id key since s cs).1:=by
 unfold insStart
 split
 ·exact (ext_put _ _).trans (ext_put _ _)
 ·exact ext_put _ _
theorem insStart_ok {size room:Int} {row id key:List Int} {since:Int} {s:Spot} {cs:Cs} (h:CsOk cs) (h1:id.length<=65535) (h2:key.length<=65535) (hok:InsOk size room row id key since s cs):CsOk (insStart size row id key since s cs).1:=by
 have hl:=h.put (leafNd_ok size id key since h1 h2)
 unfold insStart
 split
 ·rename_i hc
  exact hl.put (forkOf_ok _ _ _ _ _ (hok.part hc).1)
 ·exact hl
structure RInsI (w wL:World) (base q:Nat) (size most:Int) (vl:Value) (X X0:Nat->Prop) (cs:Cs) (W:World):Prop where
 m : ∃vlj Xj,RefM W base q size most vlj Xj cs/\(∀k,X0 k->Xj k)/\Grew w X Xj/\Grew w (OwnQ q vl) (OwnQ q vlj)
 kept:Kept w W (OwnQ q vl)
 low:Below base w W
 fixd : ∀k,X0 k->W.heap[k]? = wL.heap[k]?
 xl : ∀k,X0 k->k<wL.heap.size
 size:wL.heap.size<=W.heap.size
 wl:w.heap.size<=wL.heap.size
 bl:base<=w.heap.size
theorem RInsI.put {w wL:World} {base q:Nat} {size most:Int} {vl:Value} {X X0:Nat->Prop} {cs cs':Cs} {W W4 W5:World} (h:RInsI w wL base q size most vl X X0 cs W) {vlj:Value} {Xj Y:Nat->Prop} (hM:RefM W base q size most vlj Xj cs) (h1 : ∀k,X0 k->Xj k) (h2:Grew w X Xj) (h3:Grew w (OwnQ q vl) (OwnQ q vlj)) (hb:Below W.heap.size W W4) (hY : ∀k,Y k->W.heap.size<=k/\k<W4.heap.size)
 (hA:RefP W4 W5 base q size most vlj (fun k=>Xj k\/Y k) cs'):RInsI w wL base q size most vl X X0 cs' W5:=by
 have hM4:RefM W4 base q size most vlj (fun k=>Xj k\/Y k) cs:=(hM.below hb).more Y (fun k hk=>⟨(hY k hk).2,fun ho=>by have:=hM.own k ho;have:=hY k hk;omega⟩)
 obtain ⟨vl',X',hM',s1,s2,s3,s4,s5⟩:=hM4.next hA
 have hsz:=h.size
 have hwl:=h.wl
 have hbl:=h.bl
 have hbs:=hb.size
 refine ⟨⟨vl',X',hM',fun k hx=>s1 k (.inl (h1 k hx)),fun k hk=>?_,h3.trans s3 (by omega)⟩,⟨by have:=s4.1;omega,fun k hk ho=>?_⟩,h.low.trans ((hb.mono (by omega)).trans s5),fun k hx=>?_,h.xl,by have:=s4.1;omega,h.wl,h.bl⟩
 ·rcases s2 k hk with (h5|h5)|h5
  ·exact h2 k h5
  ·exact .inr (by have:=hY k h5;omega)
  ·exact .inr (by omega)
 ·have hno : ¬OwnQ q vlj k:=fun h5=>(h3 k h5).elim ho (fun h6=>by omega)
  exact (s4.2 k (by omega) hno).trans ((hb.block k (by omega)).trans (h.kept.2 k hk ho))
 ·have hxl:=h.xl k hx
  exact (s4.2 k (by omega) (hM.sep k (h1 k hx)).2).trans ((hb.block k (by omega)).trans (h.fixd k hx))
theorem R_int_v {w:World} {base:Nat} {ok:Nat->Prop} {A:Option Addr} {n c:Nat} {l:List Int} (h:Kd.R (Kd.int .i64) 3 w base ok (.slice A n c) l):n=l.length/\(∀k,some k=(Value.slice A n c).ownBlock->base<=k/\k<w.heap.size)/\∀(i:Nat) (hi:i<l.length),∃g,A=some ⟨g,0,none⟩/\w.cell? ⟨g,i,none⟩=some (.int .i64 l[i]):=
 ⟨(Kd.R_reads' h).1,fun k hk=>⟨Kd.R_base h k hk.symm,Kd.R_lt h k hk.symm⟩,fun i hi=>R_int_at h i hi⟩
set_option maxHeartbeats 8000000 in
set_option maxRecDepth 100000 in
theorem rinsert_ok {w:World} {base q:Nat} {size most:Int} {vl:Value} {X:Nat->Prop} {cs:Cs} {A1 A2:Option Addr} {c1 c2:Nat} {id key:List Int} (h:RefPre w base q size most vl X cs A1 A2 c1 c2 id key) (root since:Int) (hroot:root = -1\/(root≠ -1/\(nodeAt cs root).isSome=true)) (hbad : ¬badIns id key since) (t0:Option PT) (ht0:IsO cs root t0) (hh:(wayO (keyB id) root t0).1.length<=8*(keyB id).length) (hno : ¬most-(usedN cs:Int)<((findO (keyB id) id root t0).needs:Int)) (hok:InsOk size most (keyB id) id key since (findO (keyB id) id root t0) cs) (hp0:root = -1->(findO (keyB id) id root t0).at_ = -1) (hp1:root≠ -1->(findO (keyB id) id root t0).at_≠ -1):
 Calls Tryz.prog 10 #[.pointer (some ⟨q,0,none⟩),.int .i64 root,.slice A1 id.length c1,.slice A2 key.length c2,.int .i64 since] w fun e w'=>RInsP w w' base q size most vl X (insAll size (keyB id) id key since (findO (keyB id) id root t0) cs).1 (insAll size (keyB id) id key since (findO (keyB id) id root t0) cs).2 0 e:=by
 have H:=z_ h
 clear h
 have HNR:=z_ (show root≠ -1->¬t0.isSome=false from fun h e=>by rcases hroot with h1|⟨_,h1⟩;exact h h1;rw [IsO.isSome ht0,e] at h1;cases h1)
 have HN1:=z_ (show nodeAt cs (-1)=none from nodeAt_neg cs (-1) (by omega))
 have HT0:=z_ (And.intro ht0 hh)
 have e1:decide ((255:Int)<(id.length:Int))=false:=decide_eq_false (fun h=>hbad (.inl (by omega)))
 have e2:decide ((65535:Int)<(key.length:Int))=false:=decide_eq_false (fun h=>hbad (.inr (.inl (by omega))))
 have e3:decide (since<0)=false:=decide_eq_false (fun h=>hbad (.inr (.inr h)))
 have HNB:=z_ hbad
 clear ht0 hh hbad
 have HNO:=z_ hno
 have HIO:=z_ hok
 have HP0:=z_ (And.intro hp0 hp1)
 clear hno hok hp0 hp1
 rcases hroot with hr|⟨hr,hnd⟩
 all_goals
  first
  | replace hr:root = -1:=hr
    have HPA:=z_ (HP0.out.1 hr)
    clear HP0
    have hr1:(root != -1)=false:=by simpa using hr
    have HBV:=z_ (show ∀b,b=(nodeAt cs root).isSome->b=false from fun b e=>by rw [e,hr,HN1.out];rfl)
    clear hr
  | replace hr:root≠ -1:=hr
    have HPA:=z_ (HP0.out.2 hr)
    clear HP0
    have hr1:(root != -1)=true:=by simpa using hr
    have HBV:=z_ (show ∀b,b=(nodeAt cs root).isSome->b=true from fun b e=>by rw [e,hnd])
    clear hr hnd
 all_goals
  go_enter Tryz.func10,Tryz.ntmps10
  go_wp2_with fail
  refine (rnode_calls H.out.m root (fun n hn=>(H.out.ok.at root n hn).1)).mono ?_
  rintro e w1 ⟨hN,hb⟩
  obtain ⟨n1,b,hn,hb_,D1,D2,D5,D9,d1,d2,d5,d9,rfl,x1,x2,x5,x9⟩:=hN.all
  have HB1:=z_ hb
  have hbv:=HBV.out b hb_
  subst hbv
  clear hN hn hb_ x1 x2 x5 x9 hb
  obtain ⟨w2,hw2⟩ : ∃w2,w2=w1.alloc (.cells #[.bool n1.f0,.slice D1 n1.f1.length d1,.slice D2 n1.f2.length d2,.int .i64 n1.f3,.int .i64 n1.f4,.slice D5 n1.f5.length d5,.int .i64 n1.f6,.int .i64 n1.f7,.int .i64 n1.f8,.slice D9 n1.f9.length d9] 59):=⟨_,rfl⟩
  have HB2:=z_ (show Below w.heap.size w w2 from by rw [hw2];exact below_alloc HB1.out _)
  go_wp2_with fail
  rw [<-hw2]
  clear hw2 e1 e2 e3
  have HQ1:=z_ (show ∀W,Below w.heap.size w W->W.cell? ⟨q,1,none⟩=some (.int .i64 most) from fun W hb=>by
   obtain ⟨rows,hv⟩:=(H.out.m.below hb).mem
   exact hv.blk.cells.2.1)
  have hroomr:=H.out.m.hr
  have hused:(usedN cs:Int)<=4194304:=by have h1:=usedN_le cs;have h2:=H.out.m.hl;omega
  have HRU:=z_ (And.intro hroomr hused)
  clear hroomr hused
  refine start_ (n:=12) (S:=fun w'=>w'.cell? ⟨q,1,none⟩=some (.int .i64 most)) (ds:=[]) (bt_ 12 0) (by kernel_rfl) rfl rfl ?hs0 (fun hHeld=>?_)
  case hs0=>exact HQ1.out _ (below_drew HB2.out)
  refine with_tabW rins_tab4 rins_bits4 (fun HT_ HW_=>?_)
  have HB3:=z_ (show Below w.heap.size w w2.drew from below_drew HB2.out)
  generalize hgw:w2.drew=w3 at HB3 hHeld ⊢
  clear hgw
  refine pure_ (i:=0) (N:=(some 51)) (v:=?_) (a':=?_) (bt_ 12 1) rfl rfl (any_of HT_.out (by kernel_rfl)) (fun _ _ _ h=>h) (Or.inl ⟨by rfl,?_⟩) ?_ ?_
  rotate_left
  ·intro w'
   go_simp
   with_reducible rfl
  rotate_left
  ·simp only [pq_]
   rfl
  refine pure_ (i:=1) (N:=(some 52)) (v:=?_) (a':=?_) (bt_ 12 3) rfl rfl (any_of HT_.out (by kernel_rfl)) (fun _ _ _ h=>h) (Or.inl ⟨by rfl,?_⟩) ?_ ?_
  rotate_left
  ·intro w'
   go_simp
   with_reducible rfl
  rotate_left
  ·simp only [pq_]
   rfl
  refine pure_ (i:=2) (N:=(some 53)) (v:=?_) (a':=?_) (bt_ 12 7) rfl rfl (any_of HT_.out (by kernel_rfl)) (fun _ _ _ h=>h) (Or.inl ⟨by rfl,?_⟩) ?_ ?_
  rotate_left
  ·intro w'
   go_simp
   with_reducible rfl
  rotate_left
  ·simp only [pq_]
   rfl
  refine pure_ (i:=4) (N:=(some 55)) (v:=?_) (a':=?_) (bt_ 12 23) rfl rfl (any_of HT_.out (by kernel_rfl)) (fun _ _ _ h=>h) (Or.inl ⟨by rfl,?_⟩) ?_ ?_
  rotate_left
  ·intro w'
   go_simp
   with_reducible rfl
  rotate_left
  ·simp only [pq_]
   rfl
  refine pure_ (i:=5) (N:=(some 56)) (v:=?_) (a':=?_) (bt_ 12 55) rfl rfl (any_of HT_.out (by kernel_rfl)) (fun _ _ _ h=>h) (Or.inl ⟨by rfl,?_⟩) ?_ ?_
  rotate_left
  ·intro w'
   go_simp
   with_reducible rfl
  rotate_left
  ·simp only [pq_]
   rfl
  refine pure_ (i:=6) (N:=(some 57)) (v:=?_) (a':=?_) (bt_ 12 119) rfl rfl (any_of HT_.out (by kernel_rfl)) (fun _ _ _ h=>h) (Or.inl ⟨by rfl,?_⟩) ?_ ?_
  rotate_left
  ·intro w'
   go_simp
   with_reducible rfl
  rotate_left
  ·simp only [pq_]
   rfl
  refine take_ (i:=7) (N:=(some 58)) (v:=?_) (a':=?_) (bt_ 12 247) rfl rfl (take_ofW HT_.out HW_.out (by kernel_rfl)) (fun _ _ _ h=>h) (Or.inl ⟨by rfl,?_⟩) hHeld ?_ ?_
  rotate_left
  ·rintro w' s0
   go_simp
   with_reducible rfl
  rotate_left
  ·simp only [pq_]
   rfl
  refine pure_ (i:=8) (N:=(some 59)) (v:=?_) (a':=?_) (bt_ 12 503) rfl rfl (any_of HT_.out (by kernel_rfl)) (fun _ _ _ h=>h) (Or.inl ⟨by rfl,?_⟩) ?_ ?_
  rotate_left
  ·intro w'
   go_simp
   with_reducible rfl
  rotate_left
  ·simp only [pq_]
   rfl
  refine one_ (i:=3) (N:=(some 54)) (bt_ 12 511) rfl rfl (one_of HT_.out (by kernel_rfl)) (by decide) (fun K hK=>?_)
  refine goes_ Tryz.func8 (by kernel_rfl) rfl #[.pointer (some ⟨q,0,none⟩),.int .i64 root,.slice A1 id.length c1] (by rfl) rfl rfl (by (try simp only [List.map_toArray,List.map_cons,List.map_nil]);first|done|rfl) ?_
  with_reducible refine (rneeds_calls (H.out.m.below HB3.out) H.out.ok root A1 c1 id (Kd.C_below (Kd.V_reads' H.out.bid).2.2 HB3.out) (Kd.V_reads' H.out.bid).2.1 H.out.ido H.out.node t0 HT0.out.1 HT0.out.2 HN1.out).mono ?_
  rintro e w4 ⟨rfl,hb⟩
  have HB4:=z_ (below_step HB3.out hb)
  clear hb
  refine ⟨_,rfl,?_⟩
  refine hK.out _ _ (HQ1.out _ HB4.out) (fun hHeld=>?_)
  clear hK K
  refine norm_ (a':=?_) ?_ ?_
  rotate_left
  ·show Act.put _ (some 54) _=_
   simp only [pq_]
   rfl
  refine one_ (i:=9) (N:=(some 60)) (bt_ 12 1023) rfl rfl (one_of HT_.out (by kernel_rfl)) (by decide) (fun K hK=>?_)
  refine goes_ Tryz.func15 (by kernel_rfl) rfl #[.pointer (some ⟨q,0,none⟩)] (by rfl) rfl rfl (by (try simp only [List.map_toArray,List.map_cons,List.map_nil]);first|done|rfl) ?_
  with_reducible refine (rused_calls (H.out.m.below HB4.out)).mono ?_
  rintro e w' ⟨rfl,rfl⟩
  refine ⟨_,rfl,?_⟩
  refine hK.out _ _ (HQ1.out _ HB4.out) (fun hHeld=>?_)
  clear hK K
  refine norm_ (a':=?_) ?_ ?_
  rotate_left
  ·show Act.put _ (some 60) _=_
   simp only [pq_]
   rfl
  obtain ⟨us,hus⟩ : ∃x,x=(usedN cs:Int):=⟨_,rfl⟩
  have hls:wrap64 (most-us)=most-us:=wrap64_id _ (by rw [hus];have:=HRU.out;omega)
  have HUS:=z_ hus
  rw [<-hus]
  obtain ⟨nd,hnd⟩ : ∃x,x=needsO root t0 (findO (keyB id) id root t0):=⟨_,rfl⟩
  rw [<-hnd]
  have HND:=z_ hnd
  clear hus hnd
  refine pure_ (i:=10) (N:=(some 61)) (v:=?_) (a':=?_) (bt_ 12 2047) rfl rfl (any_of HT_.out (by kernel_rfl)) (fun _ _ _ h=>h) (Or.inl ⟨by rfl,?_⟩) ?_ ?_
  rotate_left
  ·intro w'
   go_simp
   with_reducible rfl
  rotate_left
  ·simp only [pq_]
   rfl
  refine pure_ (i:=11) (N:=(some 62)) (v:=?_) (a':=?_) (bt_ 12 4095) rfl rfl (any_of HT_.out (by kernel_rfl)) (fun _ _ _ h=>h) (Or.inl ⟨by rfl,?_⟩) ?_ ?_
  rotate_left
  ·intro w'
   go_simp
   with_reducible rfl
  rotate_left
  ·simp only [pq_]
   rfl
  refine done_ (done_of HT_.out (by kernel_rfl)) ?_
  clear hHeld HT_ HW_
  have HNN:=z_ (show nd=((findO (keyB id) id root t0).needs:Int) from by
   rw [HND.out]
   unfold needsO
   rw [if_neg]
   rintro ⟨h1,h2⟩
   exact HNR.out h1 h2)
  have d6 : ¬most-us<nd:=by have h1:=HNO.out;rw [HNN.out,HUS.out];omega
  have d5:decide (most-us<nd)=false:=decide_eq_false d6
  go_wp2_with fail
  clear d5 d6 hls
  refine (rkey_calls A1 c1 id w4 (Kd.C_below (Kd.V_reads' H.out.bid).2.2 HB4.out) (Kd.V_reads' H.out.bid).2.1).mono ?_
  rintro e w5 ⟨v,rfl,hR,hb⟩
  obtain ⟨Ak,nk,ck,rfl⟩:=formR hR
  obtain ⟨row,hrow⟩ : ∃row,row=keyB id:=⟨_,rfl⟩
  rw [<-hrow] at hR
  have HRW:=z_ hrow
  obtain rfl:nk=row.length:=(Kd.R_reads' hR).1
  have HVR:=z_ (show BX w5 (fun k=>w.heap.size<=k/\k<w5.heap.size) (.slice Ak row.length ck) row from Kd.V_mono (Kd.R_V (Kd.R_bound hR)) (fun k hk=>⟨by have:=HB4.out.size;have:=hk.2.1;omega,hk.2.2.1⟩))
  have HB5:=z_ (below_step HB4.out hb)
  clear hR hb hrow
  go_wp2_with fail
  refine (way_calls (H.out.m.below HB5.out) H.out.ok root Ak ck row (Kd.V_reads' HVR.out).2.2 (Kd.V_reads' HVR.out).2.1 (by rw [HRW.out];exact keyB_ok id H.out.ido) (by rw [HRW.out];exact keyB_len id) (fun n hn=>(H.out.node n hn).2.1) t0 HT0.out.1 (by rw [HRW.out];exact HT0.out.2) (fun n hn=>(H.out.node n hn).2.2)).mono ?_
  rintro e w6 ⟨Af,nf,cf,rfl,hRf,hb⟩
  obtain ⟨s,hs⟩ : ∃s,s=findO (keyB id) id root t0:=⟨_,rfl⟩
  obtain ⟨pl,hpl⟩ : ∃pl,pl=(wayO row root t0).1:=⟨_,rfl⟩
  obtain ⟨at_,hat⟩ : ∃a,a=(wayO row root t0).2:=⟨_,rfl⟩
  rw [<-hpl] at hRf
  rw [<-hat]
  have HRF:=z_ hRf
  have HS:=z_ (And.intro hs (And.intro hpl hat))
  have HB6:=z_ (below_step HB5.out hb)
  have HB65:=z_ hb
  have HSP:=z_ (show s.at_=at_/\pl.length=s.forks.length/\(∀(k:Nat) (n:Nd),s.forks[k]? = some n->∃i,pl[k]? = some i/\nodeAt cs i=some n)/\s.forks.length<=2048 from by
   have hwo:=way_o cs (keyB id) id root t0 HT0.out.1
   rw [<-hs,<-HRW.out,<-hat,<-hpl] at hwo
   have hwl:=HT0.out.2
   rw [<-HRW.out,<-hpl] at hwl
   have hkl:=keyB_len id
   rw [<-HRW.out] at hkl
   refine ⟨hwo.1,hwo.2.1,fun k n hk=>?_,by omega⟩
   cases t0 with
   | none=>
     rw [hs] at hk
     cases hk
   | some t=>
     obtain ⟨_,hm,_,_,_⟩:=way_find cs (keyB id) id t root HT0.out.1
     have hpl':pl=(wayT (keyB id) root t).1:=by rw [hpl,HRW.out];rfl
     have hs':s=findT (keyB id) id root t:=hs
     rw [<-hpl',<-hs'] at hm
     have h1:=congrArg (fun l:List (Option Nd)=>l[k]?) hm
     simp only [List.getElem?_map,hk,Option.map_some] at h1
     obtain ⟨i,hi,hn⟩:=Option.map_eq_some_iff.1 h1
     exact ⟨i,hi,hn⟩)
  clear hRf hs hpl hat hb
  go_wp2_with fail
  refine (rnode_calls (H.out.m.below HB6.out) at_ (fun n hn=>(H.out.ok.at at_ n hn).1)).mono ?_
  rintro e w7 ⟨hN,hb⟩
  obtain ⟨n2,b2,hn,hb_,G1,G2,G5,G9,p1,p2,p5,p9,rfl,x1,x2,x5,x9⟩:=hN.all
  have HB7:=z_ (below_step HB6.out hb)
  have HB76:=z_ hb
  have HN2:=z_ (And.intro hn hb_)
  have HX2:=z_ (show BX w7 (fun k=>w.heap.size<=k) (.slice G1 n2.f1.length p1) n2.f1/\BX w7 (fun k=>w.heap.size<=k) (.slice G5 n2.f5.length p5) n2.f5 from ⟨Kd.V_mono x1 (fun k hk=>by have:=HB6.out.size;omega),Kd.V_mono x5 (fun k hk=>by have:=HB6.out.size;omega)⟩)
  clear hN hn hb_ x1 x2 x5 x9 hb
 all_goals
  first
  | have hat0:(findO (keyB id) id root t0).at_ = -1:=HPA.out
    have hsa:s.at_ = -1:=by rw [HS.out.1];exact hat0
    have hb2:b2=false:=by rw [HN2.out.2,<-HSP.out.1,hsa,HN1.out];rfl
    subst hb2
    have HSTA0:=z_ hsa
    clear hat0 hsa
  | have hat0:(findO (keyB id) id root t0).at_≠ -1:=HPA.out
    cases hsm0:(findO (keyB id) id root t0).same
    all_goals
     first
     | replace hsm0:(findO (keyB id) id root t0).same=true:=hsm0
       have hsn:nodeAt cs s.at_=some s.node/\s.same=(s.node.f0&&decide (s.node.f1=id))/\s.at_≠ -1:=by
        rw [HS.out.1]
        cases ht:t0 with
        | none=>exfalso;rw [ht] at hat0;exact hat0 rfl
        | some t=>
          have h1:=HT0.out.1
          rw [ht] at h1
          obtain ⟨_,_,h3,h4,_⟩:=way_find cs (keyB id) id t root h1
          rw [ht] at hat0
          exact ⟨h3,h4,hat0⟩
       have hna:nodeAt cs at_=some s.node:=by rw [<-HSP.out.1];exact hsn.1
       have hb2:b2=true:=by rw [HN2.out.2,hna];rfl
       have hn2:n2=s.node:=by rw [HN2.out.1,hna];rfl
       subst hb2
       have hss:s.same=(n2.f0&&decide (n2.f1=id)):=by rw [hn2];exact hsn.2.1
       rw [<-HS.out.1] at hsm0 hat0
       have hff:n2.f0=true/\n2.f1=id:=by
        rw [hsm0] at hss
        have:=hss.symm
        simpa using this
       have HSTA0:=z_ (And.intro hsn.2.2 (And.intro hsm0 hn2))
       have HNC:=z_ (show some n2∈cs from by rw [hn2];exact nodeAt_mem hsn.1)
       have HFF:=z_ hff
       clear hat0 hsm0 hsn hna hn2 hss hff
     | replace hsm0:(findO (keyB id) id root t0).same=false:=hsm0
       cases hl0:(findO (keyB id) id root t0).node.f0
       all_goals
        first
        | replace hl0:(findO (keyB id) id root t0).node.f0=true:=hl0
          have hsn:nodeAt cs s.at_=some s.node/\s.same=(s.node.f0&&decide (s.node.f1=id))/\s.at_≠ -1:=by
           rw [HS.out.1]
           cases ht:t0 with
           | none=>exfalso;rw [ht] at hat0;exact hat0 rfl
           | some t=>
             have h1:=HT0.out.1
             rw [ht] at h1
             obtain ⟨_,_,h3,h4,_⟩:=way_find cs (keyB id) id t root h1
             rw [ht] at hat0
             exact ⟨h3,h4,hat0⟩
          have hna:nodeAt cs at_=some s.node:=by rw [<-HSP.out.1];exact hsn.1
          have hb2:b2=true:=by rw [HN2.out.2,hna];rfl
          have hn2:n2=s.node:=by rw [HN2.out.1,hna];rfl
          subst hb2
          have hss:s.same=(n2.f0&&decide (n2.f1=id)):=by rw [hn2];exact hsn.2.1
          rw [<-HS.out.1] at hsm0 hat0
          have h0:n2.f0=true:=by rw [hn2,HS.out.1];exact hl0
          clear hl0
          have hff:n2.f0=true/\n2.f1≠id:=by
           refine ⟨h0,fun e=>?_⟩
           rw [hsm0,h0,decide_eq_true e] at hss
           cases hss
          clear h0
          have HSTA0:=z_ (And.intro hsn.2.2 (And.intro hsm0 hn2))
          have HNC:=z_ (show some n2∈cs from by rw [hn2];exact nodeAt_mem hsn.1)
          have HFF:=z_ hff
          clear hat0 hsm0 hsn hna hn2 hss hff
        | replace hl0:(findO (keyB id) id root t0).node.f0=false:=hl0
          have hsn:nodeAt cs s.at_=some s.node/\s.same=(s.node.f0&&decide (s.node.f1=id))/\s.at_≠ -1:=by
           rw [HS.out.1]
           cases ht:t0 with
           | none=>exfalso;rw [ht] at hat0;exact hat0 rfl
           | some t=>
             have h1:=HT0.out.1
             rw [ht] at h1
             obtain ⟨_,_,h3,h4,_⟩:=way_find cs (keyB id) id t root h1
             rw [ht] at hat0
             exact ⟨h3,h4,hat0⟩
          have hna:nodeAt cs at_=some s.node:=by rw [<-HSP.out.1];exact hsn.1
          have hb2:b2=true:=by rw [HN2.out.2,hna];rfl
          have hn2:n2=s.node:=by rw [HN2.out.1,hna];rfl
          subst hb2
          have hss:s.same=(n2.f0&&decide (n2.f1=id)):=by rw [hn2];exact hsn.2.1
          rw [<-HS.out.1] at hsm0 hat0
          have hff:n2.f0=false/\True:=⟨by rw [hn2,HS.out.1];exact hl0,trivial⟩
          clear hl0
          have HSTA0:=z_ (And.intro hsn.2.2 (And.intro hsm0 hn2))
          have HNC:=z_ (show some n2∈cs from by rw [hn2];exact nodeAt_mem hsn.1)
          have HFF:=z_ hff
          clear hat0 hsm0 hsn hna hn2 hss hff
 all_goals
  obtain ⟨b0,hb0⟩ : ∃b,b=n2.f0:=⟨_,rfl⟩
  rw [<-hb0]
  have HB0:=z_ hb0
  clear hb0
  obtain ⟨w8,hw8⟩ : ∃w8,w8=w7.alloc (.cells #[.bool b0,.slice G1 n2.f1.length p1,.slice G2 n2.f2.length p2,.int .i64 n2.f3,.int .i64 n2.f4,.slice G5 n2.f5.length p5,.int .i64 n2.f6,.int .i64 n2.f7,.int .i64 n2.f8,.slice G9 n2.f9.length p9] 59):=⟨_,rfl⟩
  have HN8:=z_ (show NdB w8 w7.heap.size [.bool b0,.slice G1 n2.f1.length p1,.slice G2 n2.f2.length p2,.int .i64 n2.f3,.int .i64 n2.f4,.slice G5 n2.f5.length p5,.int .i64 n2.f6,.int .i64 n2.f7,.int .i64 n2.f8,.slice G9 n2.f9.length p9] from by rw [hw8];exact heap_alloc_new w7 _)
  have HB87:=z_ (show Below w7.heap.size w7 w8 from by rw [hw8];exact below_alloc (Below.refl _ _) _)
  have HB8:=z_ (below_step HB7.out HB87.out)
  go_wp2_with fail
  rw [<-hw8]
  clear hw8
  obtain ⟨g7,hg7⟩ : ∃g,g=w7.heap.size:=⟨_,rfl⟩
  rw [<-hg7] at HN8
  rw [<-hg7]
  have HG7:=z_ hg7
  clear hg7
  have HBU:=z_ (show base<=w.heap.size/\q<w.heap.size from H.out.m.base_le)
  refine (rleaf_calls (H.out.m.below HB8.out) A1 A2 c1 c2 id key since (Kd.V_below H.out.bid HB8.out) (Kd.V_below H.out.bkey HB8.out) H.out.ido H.out.keyo).mono ?_
  rintro e w9 hp
  obtain ⟨rfl,hA⟩:=hp.ok (fun h=>HNB.out (by unfold badIns;omega)) HIO.out.leaf
  obtain ⟨vl1,X1,hM1,hs1,gx1,go1,hk1,hl1⟩:=(H.out.m.below HB8.out).next hA
  obtain ⟨c0,hc0⟩ : ∃c0,c0=putC cs (leafNd size id key since):=⟨_,rfl⟩
  rw [<-hc0] at hM1
  obtain ⟨m0_,hm0⟩ : ∃m0_,m0_=(lowN cs:Int):=⟨_,rfl⟩
  rw [<-hm0]
  have HC0:=z_ (And.intro hc0 hm0)
  have HM9:=z_ hM1
  have HX9:=z_ (And.intro hs1 (And.intro gx1 go1))
  have HK9:=z_ (And.intro hk1 hl1)
  have HOW:=z_ (show ∀k,OwnQ q vl k->k<w.heap.size from fun k hk=>H.out.m.own k hk)
  have HSM9:=z_ (show ∀k,X k\/w.heap.size<=k->k<w8.heap.size->w9.heap[k]? = w8.heap[k]? from fun k hk hl=>hk1.2 k hl (fun ho=>by
   rcases hk with hk|hk
   ·exact (H.out.m.sep k hk).2 ho
   ·have:=H.out.m.own k ho
    omega))
  have HN9:=z_ (show NdB w9 g7 [.bool b0,.slice G1 n2.f1.length p1,.slice G2 n2.f2.length p2,.int .i64 n2.f3,.int .i64 n2.f4,.slice G5 n2.f5.length p5,.int .i64 n2.f6,.int .i64 n2.f7,.int .i64 n2.f8,.slice G9 n2.f9.length p9] from (HSM9.out g7 (.inr (by rw [HG7.out];exact HB7.out.size)) (blk_lt HN8.out)).trans HN8.out)
  clear hp hA hM1 hs1 gx1 go1 hk1 hl1 hc0 hm0
  obtain ⟨z0,z1,z2,z3,z4,z5,z6,z7,z8,z9⟩:=HN9.out.cells
 all_goals
  first
  | have hq:s.at_ = -1:=HSTA0.out
    clear hq
    have HSTI:=z_ (show insStart size row id key since s cs=(c0,m0_) from by unfold insStart;rw [if_neg (fun h=>h.1 HSTA0.out),<-HC0.out.1,<-HC0.out.2])
    have HSTA:=HSTI
    obtain ⟨wA,hwA⟩ : ∃x,x=w9:=⟨_,rfl⟩
    obtain ⟨vlA,hvlA⟩ : ∃x,x=vl1:=⟨_,rfl⟩
    obtain ⟨XA,hXA⟩ : ∃x,x=X1:=⟨_,rfl⟩
    obtain ⟨cA,hcA⟩ : ∃x,x=c0:=⟨_,rfl⟩
    obtain ⟨nA,hnA⟩ : ∃x,x=m0_:=⟨_,rfl⟩
    rw [<-hcA,<-hnA] at HSTA
    have HMA:=z_ (show RefM wA base q size most vlA XA cA from by rw [hwA,hvlA,hXA,hcA];exact HM9.out)
    have HXA:=z_ (show (∀k,X k->XA k)/\Grew w X XA/\(∀k,OwnQ q vlA k->OwnQ q vl k\/w8.heap.size<=k) from by
     rw [hvlA,hXA]
     exact ⟨HX9.out.1,fun k hk=>(HX9.out.2.1 k hk).elim .inl (fun h=>.inr (by have:=HB8.out.size;omega)),HX9.out.2.2⟩)
    have HKA:=z_ (show Kept w wA (OwnQ q vl)/\Below base w wA/\w8.heap.size<=wA.heap.size from by
     rw [hwA]
     have h1:=HB8.out.size
     exact ⟨⟨by have:=HK9.out.1.1;omega,fun k hk ho=>(HK9.out.1.2 k (by omega) ho).trans (HB8.out.block k hk)⟩,(HB8.out.mono HBU.out.1).trans HK9.out.2,HK9.out.1.1⟩)
    have HSMA:=z_ (show ∀k,X k\/w.heap.size<=k->k<w8.heap.size->wA.heap[k]? = w8.heap[k]? from by rw [hwA];exact HSM9.out)
    rw [<-hnA]
    try rw [<-hwA]
    clear hwA hvlA hXA hcA hnA z0 z1 z2 z3 z4 z5 z6 z7 z8 z9
  | have hq:s.at_≠ -1/\s.same=true/\n2=s.node:=HSTA0.out
    clear hq
    obtain rfl:b0=true:=HB0.out.trans HFF.out.1
    have v1:=Kd.C_string (P:=Tryz.prog) (A:=G1) (c:=p1) Tryz.underlying23 Tryz.underlying5 Tryz.underlying9 (Kd.V_reads' (Kd.V_step HX2.out.1 (fun k hk hl=>(HSM9.out k (.inr hk) (by have:=HB87.out.size;omega)).trans (HB87.out.block k hl)))).2.2
    have v2:=Kd.C_string (P:=Tryz.prog) (A:=A1) (c:=c1) Tryz.underlying23 Tryz.underlying5 Tryz.underlying9 (Kd.V_reads' (Kd.V_step H.out.bid (fun k hk hl=>(HSM9.out k (.inl hk) (by have:=HB8.out.size;omega)).trans (HB8.out.block k hl)))).2.2
    have hse:((strOfNums n2.f1).toList !=(strOfNums id).toList)=false:=by rw [HFF.out.2];simp
    have hse2:((strOfNums n2.f1).toList==(strOfNums id).toList)=true:=by rw [HFF.out.2];simp
    have hse3:((strOfNums n2.f1).toList=(strOfNums id).toList)=True:=by rw [HFF.out.2];simp
    have HSTI:=z_ (show insStart size row id key since s cs=(c0,m0_) from by unfold insStart;rw [if_neg (fun h=>by rw [HSTA0.out.2.1] at h;cases h.2),<-HC0.out.1,<-HC0.out.2])
    go_wp2_with fail
    clear v1 v2 hse hse2 hse3
    have HSTA:=HSTI
    obtain ⟨wA,hwA⟩ : ∃x,x=w9:=⟨_,rfl⟩
    obtain ⟨vlA,hvlA⟩ : ∃x,x=vl1:=⟨_,rfl⟩
    obtain ⟨XA,hXA⟩ : ∃x,x=X1:=⟨_,rfl⟩
    obtain ⟨cA,hcA⟩ : ∃x,x=c0:=⟨_,rfl⟩
    obtain ⟨nA,hnA⟩ : ∃x,x=m0_:=⟨_,rfl⟩
    rw [<-hcA,<-hnA] at HSTA
    have HMA:=z_ (show RefM wA base q size most vlA XA cA from by rw [hwA,hvlA,hXA,hcA];exact HM9.out)
    have HXA:=z_ (show (∀k,X k->XA k)/\Grew w X XA/\(∀k,OwnQ q vlA k->OwnQ q vl k\/w8.heap.size<=k) from by
     rw [hvlA,hXA]
     exact ⟨HX9.out.1,fun k hk=>(HX9.out.2.1 k hk).elim .inl (fun h=>.inr (by have:=HB8.out.size;omega)),HX9.out.2.2⟩)
    have HKA:=z_ (show Kept w wA (OwnQ q vl)/\Below base w wA/\w8.heap.size<=wA.heap.size from by
     rw [hwA]
     have h1:=HB8.out.size
     exact ⟨⟨by have:=HK9.out.1.1;omega,fun k hk ho=>(HK9.out.1.2 k (by omega) ho).trans (HB8.out.block k hk)⟩,(HB8.out.mono HBU.out.1).trans HK9.out.2,HK9.out.1.1⟩)
    have HSMA:=z_ (show ∀k,X k\/w.heap.size<=k->k<w8.heap.size->wA.heap[k]? = w8.heap[k]? from by rw [hwA];exact HSM9.out)
    rw [<-hnA]
    try rw [<-hwA]
    clear hwA hvlA hXA hcA hnA z0 z1 z2 z3 z4 z5 z6 z7 z8 z9
  | have hq:s.at_≠ -1/\s.same=false/\n2=s.node:=HSTA0.out
    clear hq
    first
     | have hff:n2.f0=true/\n2.f1≠id:=HFF.out
       obtain rfl:b0=true:=HB0.out.trans hff.1
       clear hff
       have v1:=Kd.C_string (P:=Tryz.prog) (A:=G1) (c:=p1) Tryz.underlying23 Tryz.underlying5 Tryz.underlying9 (Kd.V_reads' (Kd.V_step HX2.out.1 (fun k hk hl=>(HSM9.out k (.inr hk) (by have:=HB87.out.size;omega)).trans (HB87.out.block k hl)))).2.2
       have v2:=Kd.C_string (P:=Tryz.prog) (A:=A1) (c:=c1) Tryz.underlying23 Tryz.underlying5 Tryz.underlying9 (Kd.V_reads' (Kd.V_step H.out.bid (fun k hk hl=>(HSM9.out k (.inl hk) (by have:=HB8.out.size;omega)).trans (HB8.out.block k hl)))).2.2
       have hsb:=strNum_eq (H.out.node n2 HNC.out).1 H.out.ido
       rw [decide_eq_false HFF.out.2] at hsb
       have hse:((strOfNums n2.f1).toList !=(strOfNums id).toList)=true:=by simp only [bne,hsb,Bool.not_false]
       have hse2:((strOfNums n2.f1).toList==(strOfNums id).toList)=false:=hsb
       have hse3:((strOfNums n2.f1).toList=(strOfNums id).toList)=False:=eq_false (beq_eq_false_iff_ne.1 hsb)
       clear hsb
       go_wp2_with fail
       clear v1 v2 hse hse2 hse3 z0 z1 z2 z3 z4 z5 z6 z7 z8 z9
       refine (rkey_calls G1 p1 n2.f1 w9 (Kd.V_reads' (Kd.V_step HX2.out.1 (fun k hk hl=>(HSM9.out k (.inr hk) (by have:=HB87.out.size;omega)).trans (HB87.out.block k hl)))).2.2 (Kd.V_reads' HX2.out.1).2.1).mono ?_
       rintro e wB ⟨v,rfl,hR,hb⟩
       obtain ⟨Ao,no,co,rfl⟩:=formR hR
       have hob:otherB n2=keyB n2.f1:=by unfold otherB;rw [HFF.out.1];rfl
       obtain rfl:no=(otherB n2).length:=by rw [hob];exact (Kd.R_reads' hR).1
       have HOV:=z_ (show Kd.C (Kd.int .u8) wB Ao (otherB n2).length (otherB n2)/\(otherB n2).length<=co from by rw [hob];exact ⟨(Kd.R_reads' hR).2.2,by have:=(Kd.R_reads' hR).2.1;rw [hob] at this;exact this⟩)
       have HB9B:=z_ hb
       have HKB:=z_ (show ∀k,X k\/w.heap.size<=k->k<w8.heap.size->wB.heap[k]? = w8.heap[k]? from fun k h1 h2=>(hb.block k (by have:=HK9.out.1.1;omega)).trans (HSM9.out k h1 h2))
       clear hR hb hob
       go_wp2_with fail
     | have hff:n2.f0=false/\True:=HFF.out
       obtain rfl:b0=false:=HB0.out.trans hff.1
       clear hff
       go_wp2_with fail
       clear z0 z1 z2 z3 z4 z5 z6 z7 z8 z9
       obtain ⟨wB,hwB⟩ : ∃x,x=w9:=⟨_,rfl⟩
       obtain ⟨Ao,hAo⟩ : ∃x,x=G5:=⟨_,rfl⟩
       obtain ⟨co,hco⟩ : ∃x,x=p5:=⟨_,rfl⟩
       have hob:otherB n2=n2.f5:=by unfold otherB;rw [HFF.out.1];rfl
       have HOV:=z_ (show Kd.C (Kd.int .u8) wB Ao (otherB n2).length (otherB n2)/\(otherB n2).length<=co from by
        rw [hob,hwB,hAo,hco]
        exact ⟨(Kd.V_reads' (Kd.V_step HX2.out.2 (fun k hk hl=>(HSM9.out k (.inr hk) (by have:=HB87.out.size;omega)).trans (HB87.out.block k hl)))).2.2,(Kd.V_reads' HX2.out.2).2.1⟩)
       have HB9B:=z_ (show Below w9.heap.size w9 wB from by rw [hwB];exact Below.refl _ _)
       have HKB:=z_ (show ∀k,X k\/w.heap.size<=k->k<w8.heap.size->wB.heap[k]? = w8.heap[k]? from by rw [hwB];exact HSM9.out)
       rw [<-hob,<-hAo,<-hco,<-hwB]
       clear hwB hAo hco hob
    have HB75:=z_ (show Below w5.heap.size w5 w8 from below_step HB65.out (below_step HB76.out HB87.out))
    have HOO:=z_ (show BytesOk (otherB n2)/\(otherB n2).length<=65535 from by
     have h1:=(H.out.node n2 HNC.out)
     have h2:=(H.out.ok n2 HNC.out).1
     unfold otherB
     split
     ·exact ⟨keyB_ok _ h1.1,by have:=keyB_len n2.f1;omega⟩
     ·exact ⟨h1.2.1,h2.2.2.1⟩)
    have hmb:=bcommon_le row (otherB n2) (by rw [HRW.out];exact keyB_ok id H.out.ido) HOO.out.1
    obtain ⟨m,hm⟩ : ∃m,m=bcommon row (otherB n2):=⟨_,rfl⟩
    rw [<-hm] at hmb
    have HM_:=z_ (And.intro hm (show m<=1000000000 from by have h1:=keyB_len id;rw [<-HRW.out] at h1;omega))
    have HRL:=z_ (show row.length<=256 from by rw [HRW.out];exact keyB_len id)
    clear hm hmb
    refine (annalsref03_Common.calls 1000000 Ak ck row Ao co (otherB n2) m wB (Kd.V_reads' (Kd.V_step HVR.out (fun k hk hl=>(HKB.out k (.inr hk.1) (by have:=HB75.out.size;omega)).trans (HB75.out.block k hk.2)))).2.2 (Kd.V_reads' HVR.out).2.1 HOV.out.1 HOV.out.2 (by rw [HM_.out.1];exact rcommon_f row (otherB n2) (by rw [HRW.out];exact keyB_ok id H.out.ido) HOO.out.1 (by have:=HRL.out;omega) 1000000 (by have:=HRL.out;omega))).mono ?_
    rintro e w11 ⟨rfl,hdr⟩
    have HB11:=z_ (below_step HB9B.out hdr.below)
    have HK11:=z_ (show ∀k,X k\/w.heap.size<=k->k<w8.heap.size->w11.heap[k]? = w8.heap[k]? from fun k h1 h2=>(HB11.out.block k (by have:=HK9.out.1.1;omega)).trans (HSM9.out k h1 h2))
    clear hdr
    go_wp2_with fail
    have HMP:=z_ (show RefM w11 base q size most vl1 (fun k=>X1 k\/(w.heap.size<=k/\k<w8.heap.size)) c0 from (HM9.out.below HB11.out).more _ (fun k hk=>⟨by have:=HK9.out.1.1;have:=HB11.out.size;omega,fun ho=>by
     rcases HX9.out.2.2 k ho with h|h
     ·have:=HOW.out k h
      omega
     ·omega⟩))
    have hc0k:CsOk c0:=by rw [HC0.out.1];exact H.out.ok.put (leafNd_ok size id key since (by have:=HNB.out;unfold badIns at this;omega) (by have:=HNB.out;unfold badIns at this;omega))
    have HPT:=z_ (show (¬forkBad c0 m row (kidL row m at_ m0_) (kidR row m at_ m0_)/\(usedN c0:Int)≠most)/\insStart size row id key since s cs=(putC c0 (forkOf size c0 m row (kidL row m at_ m0_) (kidR row m at_ m0_)),(lowN c0:Int)) from by
     have h1:=HIO.out.part
     rw [<-HS.out.1,<-HRW.out,<-HC0.out.1,<-HC0.out.2,<-HSTA0.out.2.2,<-HM_.out.1,HSP.out.1] at h1
     have h2:=HSTA0.out
     rw [HSP.out.1] at h2
     refine ⟨h1 ⟨h2.1,h2.2.1⟩,?_⟩
     unfold insStart
     rw [HSP.out.1,if_pos ⟨h2.1,h2.2.1⟩,<-HC0.out.1,<-HC0.out.2,<-HSTA0.out.2.2,<-HM_.out.1])
    refine (rfork10_calls HMP.out hc0k Ak ck row (Kd.V_mono (Kd.V_step HVR.out (fun k hk hl=>(HK11.out k (.inr hk.1) (by have:=HB75.out.size;omega)).trans (HB75.out.block k hk.2))) (fun k hk=>.inr ⟨hk.1,by have:=HB75.out.size;omega⟩)) (by rw [HRW.out];exact keyB_ok id H.out.ido) m m0_ at_ HM_.out.2).mono ?_
    rintro e w12 ⟨i,er,cs1,hout,rfl,hA⟩
    obtain ⟨rfl,rfl⟩:i=(lowN c0:Int)/\cs1=putC c0 (forkOf size c0 m row (kidL row m at_ m0_) (kidR row m at_ m0_)):=by
     rcases hout with ⟨h1,_⟩|⟨_,h1,_⟩|⟨_,_,h1,_,h2⟩
     ·exact absurd h1 HPT.out.1.1
     ·exact absurd h1 HPT.out.1.2
     ·exact ⟨h1,h2⟩
    obtain ⟨vlA,XA,hMA,hs1,gx1,go1,hk1,hl1⟩:=HMP.out.next hA
    obtain ⟨wA,hwA⟩ : ∃x,x=w12:=⟨_,rfl⟩
    obtain ⟨cA,hcA⟩ : ∃x,x=putC c0 (forkOf size c0 m row (kidL row m at_ m0_) (kidR row m at_ m0_)):=⟨_,rfl⟩
    obtain ⟨nA,hnA⟩ : ∃x,x=(lowN c0:Int):=⟨_,rfl⟩
    rw [<-hcA] at hMA
    have HSTA:=z_ (show insStart size row id key since s cs=(cA,nA) from by rw [hcA,hnA];exact HPT.out.2)
    rw [<-hnA,<-hwA]
    rw [<-hwA] at hMA hk1 hl1
    have hown : ∀k,OwnQ q vl1 k->OwnQ q vl k\/w8.heap.size<=k:=HX9.out.2.2
    have HMA:=z_ hMA
    have HXA:=z_ (show (∀k,X k->XA k)/\Grew w X XA/\(∀k,OwnQ q vlA k->OwnQ q vl k\/w8.heap.size<=k) from by
     have h6:=HB11.out.size
     have h7:=HB8.out.size
     have h8:=HK9.out.1.1
     refine ⟨fun k hk=>hs1 k (.inl (HX9.out.1 k hk)),fun k hk=>?_,fun k hk=>?_⟩
     ·rcases gx1 k hk with (h|h)|h
      ·exact (HX9.out.2.1 k h).elim .inl (fun h=>.inr (by omega))
      ·exact .inr h.1
      ·exact .inr (by omega)
     ·rcases go1 k hk with h|h
      ·exact hown k h
      ·exact .inr (by omega))
    have HKA:=z_ (show Kept w wA (OwnQ q vl)/\Below base w wA/\w8.heap.size<=wA.heap.size from by
     have h6:=HB11.out.size
     have h7:=HB8.out.size
     have h8:=HK9.out.1.1
     have h9:=hk1.1
     refine ⟨⟨by omega,fun k hk ho=>?_⟩,((HB8.out.mono HBU.out.1).trans HK9.out.2).trans ((HB11.out.mono (by have:=HBU.out;omega)).trans hl1),by omega⟩
     have hno : ¬OwnQ q vl1 k:=fun h=>(hown k h).elim ho (fun h=>by omega)
     exact (hk1.2 k (by omega) hno).trans ((HB11.out.block k (by omega)).trans ((HK9.out.1.2 k (by omega) ho).trans (HB8.out.block k hk))))
    have HSMA:=z_ (show ∀k,X k\/w.heap.size<=k->k<w8.heap.size->wA.heap[k]? = w8.heap[k]? from fun k h1 h2=>(hk1.2 k (by have:=HK9.out.1.1;have:=HB11.out.size;omega) (fun ho=>by
     rcases hown k ho with h|h
     ·rcases h1 with h1|h1
      ·exact (H.out.m.sep k h1).2 h
      ·have:=HOW.out k h
       omega
     ·omega)).trans (HK11.out k h1 h2))
    clear hout hA hMA hs1 gx1 go1 hk1 hl1 hcA hnA hwA hown hc0k
 all_goals
  obtain ⟨X0,hX0⟩ : ∃X0:Nat->Prop,X0=fun k=>XA k\/(w.heap.size<=k/\k<w8.heap.size):=⟨_,rfl⟩
  have HML:=z_ (show RefM wA base q size most vlA X0 cA from by
   rw [hX0]
   refine HMA.out.more _ (fun k hk=>⟨by have:=HKA.out.2.2;omega,fun ho=>?_⟩)
   rcases HXA.out.2.2 k ho with h|h
   ·have:=HOW.out k h
    omega
   ·omega)
  have HX0:=z_ (show (∀k,XA k->X0 k)/\(∀k,w.heap.size<=k->k<w8.heap.size->X0 k)/\(∀k,X0 k->XA k\/w.heap.size<=k) from by
   rw [hX0]
   exact ⟨fun k hk=>.inl hk,fun k h1 h2=>.inr ⟨h1,h2⟩,fun k hk=>hk.imp (fun x=>x) (fun h=>h.1)⟩)
  clear hX0
  have HB86:=z_ (show Below w6.heap.size w6 w8 from below_step HB76.out HB87.out)
  have HB85:=z_ (show Below w5.heap.size w5 w8 from below_step HB65.out HB86.out)
  have HVL:=z_ (show BX wA X0 (.slice Ak row.length ck) row from Kd.V_mono (Kd.V_step HVR.out (fun k hk _=>(HSMA.out k (.inr hk.1) (by have:=HB85.out.size;omega)).trans (HB85.out.block k hk.2))) (fun k hk=>HX0.out.2.1 k hk.1 (by have:=HB85.out.size;omega)))
  obtain ⟨hnf,hpb,hpc⟩:=R_int_v HRF.out
  have hnf2:nf=s.forks.length:=hnf.trans HSP.out.2.1
  have HPC:=z_ (show ∀(k:Nat),k<nf->∃g i,Af=some ⟨g,0,none⟩/\X0 g/\wA.cell? ⟨g,k,none⟩=some (.int .i64 i)/\pl[k]? = some i from fun k hk=>by
   obtain ⟨g,hA,hc⟩:=hpc k (by omega)
   subst hA
   have h1:=hpb g rfl
   have h2:=HB5.out.size
   have h3:=HB86.out.size
   refine ⟨g,pl[k],rfl,HX0.out.2.1 g (by omega) (by omega),?_,List.getElem?_eq_getElem (by omega)⟩
   exact (cell_same ((HSMA.out g (.inr (by omega)) (by omega)).trans (HB86.out.block g h1.2))).trans hc)
  have HNF:=z_ (And.intro hnf2 (show nf<=2048 from by have:=HSP.out.2.2.2;omega))
  have HOKF:=z_ (show okF size most row s.forks.reverse cA nA from by
   have:=HIO.out.forks
   rw [<-HS.out.1,<-HRW.out,HSTA.out] at this
   exact this)
  have HCA:=z_ (show CsOk cA/\Ext cs cA from by
   have h1:=insStart_ok (key:=key) (since:=since) (id:=id) H.out.ok (by have:=HNB.out;unfold badIns at this;omega) (by have:=HNB.out;unfold badIns at this;omega) HIO.out
   have h2:=insStart_ext size (keyB id) id key since (findO (keyB id) id root t0) cs
   rw [<-HS.out.1,<-HRW.out,HSTA.out] at h1 h2
   exact ⟨h1,h2⟩)
  have hlw:wrap64 ((nf:Int)-1)=(nf:Int)-1:=wrap64_id _ (by have:=HNF.out.2;omega)
  have HI0:=z_ (show RInsI w wA base q size most vl X X0 cA wA from by
   have h5:=HBU.out.1
   have h6:=HKA.out.1.1
   refine ⟨⟨vlA,X0,HML.out,fun _ h=>h,fun k hk=>?_,fun k hk=>(HXA.out.2.2 k hk).imp (fun h=>h) (fun h=>by have:=HB8.out.size;omega)⟩,HKA.out.1,HKA.out.2.1,fun _ _=>rfl,fun k hk=>(HML.out.sep k hk).1,Nat.le_refl _,by omega,h5⟩
   rcases HX0.out.2.2 k hk with h|h
   ·exact HXA.out.2.1 k h
   ·exact .inr h)
  clear hnf hpb hpc hnf2
  have HLW:=z_ hlw
  go_wp2_with fail
  clear hlw
  go_loopw [19,22] (fun v19 v22 wr=>∃(j:Nat) (z nw:Int) (cj:Cs),v19 = .int .i64 nw/\v22 = .int .i64 z/\Aside0 (z=(nf:Int)-1-(j:Int)/\j<=nf/\insF size row (s.forks.reverse.take j) cA nA=(cj,nw))/\Aside0 (RInsI w wA base q size most vl X X0 cj wr)) (fun _ v22 _=>(intOf v22+1).toNat)
  case atStart=>exact ⟨0,_,nA,cA,rfl,rfl,⟨by have:=HLW.out;omega,Nat.zero_le _,by simp [insF]⟩,HI0⟩
  case round=>
   obtain ⟨j,z,nw,cj,rfl,rfl,HZ,HI⟩:=hrel
   by_cases hz:z<0
   ·have hd:decide (0<=z)=false:=decide_eq_false (by omega)
    have HJ:=z_ (show j=nf from by have:=HZ.out;omega)
    have HALL:=z_ (show insAll size (keyB id) id key since (findO (keyB id) id root t0) cs=(cj,nw) from by
     unfold insAll
     rw [<-HS.out.1,<-HRW.out,HSTA.out,<-HZ.out.2.2,List.take_of_length_le (by rw [List.length_reverse,HJ.out];have:=HNF.out.1;omega)])
    clear hz
    go_wp2_with fail
    go_ret2
    rw [HALL.out]
    obtain ⟨vlj,Xj,hM,i1,i2,i3⟩:=HI.out.m
    exact ⟨rfl,vlj,Xj,hM,i3,i2,HI.out.kept,HI.out.low⟩
   ·obtain ⟨k,rfl⟩:=Int.eq_ofNat_of_zero_le (show 0<=z by omega)
    have HK:=z_ (show k<nf/\k=nf-1-j/\j<nf from by have:=HZ.out;omega)
    have hd:decide (0<=(k:Int))=true:=decide_eq_true (by omega)
    have q1:(k:Int)<(nf:Int):=by have:=HK.out.1;omega
    have q2:0<=(k:Int):=by omega
    clear hz
    obtain ⟨g,pi_,rfl,hgx,hgc,hpk⟩:=HPC.out k HK.out.1
    obtain ⟨n,hn⟩ : ∃n,s.forks[k]? = some n:=⟨_,List.getElem?_eq_getElem (by have:=HNF.out.1;have:=HK.out.1;omega)⟩
    have HNA:=z_ (show nodeAt cj pi_=some n/\some n∈cs from by
     obtain ⟨i',h1,h2⟩:=HSP.out.2.2.1 k n hn
     obtain rfl:pi_=i':=by rw [hpk] at h1;exact Option.some.inj h1
     refine ⟨?_,nodeAt_mem h2⟩
     have h3:=insF_ext size row (s.forks.reverse.take j) cA nA
     rw [HZ.out.2.2] at h3
     exact h3 _ _ (HCA.out.2 _ _ h2))
    have HST:=z_ (show (¬forkBad cj n.f4 n.f5 (sideL row n nw) (sideR row n nw)/\(usedN cj:Int)≠most)/\insF size row (s.forks.reverse.take (j+1)) cA nA=(putF size row cj nw n,(lowN cj:Int)) from by
     have h1:=okF_at HOKF.out j n (by rw [rev_at _ _ (by have:=HNF.out.1;have:=HK.out;omega),<-hn];congr 1;have:=HNF.out.1;have:=HK.out;omega)
     rw [HZ.out.2.2] at h1
     exact h1)
    have HCJ:=z_ (show CsOk cj from by
     have:=insF_ok HCA.out.1 HOKF.out j
     rw [HZ.out.2.2] at this
     exact this)
    have HF4:=z_ (show n.f4<=1000000000 from by
     have h1:=HST.out.1.1
     unfold forkBad at h1
     omega)
    have hgc2:=(cell_same (a:=⟨g,k,none⟩) (HI.out.fixd g hgx)).trans hgc
    obtain ⟨vlj,Xj,hM,i1,i2,i3⟩:=HI.out.m
    have HM:=z_ hM
    have HIJ:=z_ (And.intro i1 (And.intro i2 i3))
    clear hgx hgc hpk hn hM i1 i2 i3
    go_wp2_with fail
    clear q1 q2 hgc2 hd
    refine (rnode_calls HM.out pi_ (fun m hm=>(HCJ.out.at pi_ m hm).1)).mono ?_
    rintro e w11 ⟨hN,hb⟩
    rw [HNA.out.1] at hN
    obtain ⟨J1,J2,J5,J9,j1,j2,j5,j9,rfl,x1,x2,x5,x9⟩:=hN
    have HB11:=z_ hb
    have HY5:=z_ (show BX w11 (fun k=>wr.heap.size<=k/\k<w11.heap.size) (.slice J5 n.f5.length j5) n.f5 from Kd.V_bound x5)
    clear x1 x2 x5 x9 hb
    obtain ⟨w12,hw12⟩ : ∃x,x=w11.alloc (.cells #[.bool n.f0,.slice J1 n.f1.length j1,.slice J2 n.f2.length j2,.int .i64 n.f3,.int .i64 n.f4,.slice J5 n.f5.length j5,.int .i64 n.f6,.int .i64 n.f7,.int .i64 n.f8,.slice J9 n.f9.length j9] 59):=⟨_,rfl⟩
    have HN12:=z_ (show NdB w12 w11.heap.size [.bool n.f0,.slice J1 n.f1.length j1,.slice J2 n.f2.length j2,.int .i64 n.f3,.int .i64 n.f4,.slice J5 n.f5.length j5,.int .i64 n.f6,.int .i64 n.f7,.int .i64 n.f8,.slice J9 n.f9.length j9] from by rw [hw12];exact heap_alloc_new w11 _)
    have HB12:=z_ (show Below w11.heap.size w11 w12 from by rw [hw12];exact below_alloc (Below.refl _ _) _)
    go_wp2_with fail
    rw [<-hw12]
    clear hw12
    obtain ⟨g11,hg11⟩ : ∃g,g=w11.heap.size:=⟨_,rfl⟩
    rw [<-hg11] at HN12
    rw [<-hg11]
    have HG11:=z_ hg11
    clear hg11
    have HBW:=z_ (below_step HB11.out HB12.out)
    refine (annalsref03_Bit.calls Ak ck row n.f4 (bitP row n.f4) w12 (Kd.V_reads' (Kd.V_below (Kd.V_step HVL.out (fun k hk _=>HI.out.fixd k hk)) HBW.out)).2.2 (Kd.V_reads' HVL.out).2.1 (rbitP_f row (by rw [HRW.out];exact keyB_ok id H.out.ido) n.f4 HF4.out)).mono ?_
    rintro e w13 ⟨rfl,hdr⟩
    have HB13:=z_ (below_step HBW.out hdr.below)
    have HB131:=z_ (below_step HB12.out hdr.below)
    have HN13:=z_ (HN12.out.below hdr.below)
    clear hdr
    obtain ⟨m0,m1,m2,m3,m4,m5,m6,m7,m8,m9⟩:=HN13.out.cells
    have HM13:=z_ (show RefM w13 base q size most vlj (fun k=>Xj k\/(wr.heap.size<=k/\k<w13.heap.size)) cj from (HM.out.below HB13.out).more _ (fun k hk=>⟨hk.2,fun ho=>by have:=HM.out.own k ho;omega⟩))
    have HX13:=z_ (show BX w13 (fun k=>Xj k\/(wr.heap.size<=k/\k<w13.heap.size)) (.slice J5 n.f5.length j5) n.f5 from Kd.V_mono (Kd.V_below HY5.out HB131.out) (fun k hk=>.inr ⟨hk.1,by have:=HB131.out.size;omega⟩))
    have hw1:wrap64 ((k:Int)-1)=(k:Int)-1:=wrap64_id _ (by have:=HNF.out.2;have:=HK.out;omega)
    by_cases hbit:bitP row n.f4=1
    ·have hb1:(bitP row n.f4==1)=true:=by rw [hbit];rfl
     have HSD:=z_ (show sideL row n nw=n.f7/\sideR row n nw=nw from ⟨by unfold sideL;rw [if_pos hbit],by unfold sideR;rw [if_pos hbit]⟩)
     clear hbit
     go_wp2_with fail
     refine (rfork_calls HM13.out J5 j5 n.f5 n.f4 n.f7 nw (by have:=HF4.out;omega) HX13.out (H.out.node n HNA.out.2).2.1 (fun i m hm=>HCJ.out.at i m hm)).mono ?_
     rintro e w14 hp
     rw [rforkOf_eq _ _ _ _ (H.out.node n HNA.out.2).2.1] at hp
     obtain ⟨rfl,hA⟩:=hp.ok (by have:=HST.out.1.1;rwa [HSD.out.1,HSD.out.2] at this) HST.out.1.2
     have HI6:=z_ (HI.out.put HM.out HIJ.out.1 HIJ.out.2.1 HIJ.out.2.2 HB13.out (fun k hk=>hk) hA)
     have HPF:=z_ (show putF size row cj nw n=putC cj (forkOf size cj n.f4 n.f5 n.f7 nw) from by unfold putF;rw [HSD.out.1,HSD.out.2])
     clear hp hA m0 m1 m2 m3 m4 m5 m6 m7 m8 m9
     go_wp2_with fail
     go_roundw
     case measure=>simp only [intOf];have:=hw1;omega
     case rel=>exact ⟨j+1,_,_,_,rfl,rfl,⟨by have:=HK.out;omega,by have:=HK.out;omega,by rw [HST.out.2,HPF.out]⟩,HI6⟩
    ·have hb1:(bitP row n.f4==1)=false:=by simpa using hbit
     have HSD:=z_ (show sideL row n nw=nw/\sideR row n nw=n.f8 from ⟨by unfold sideL;rw [if_neg hbit],by unfold sideR;rw [if_neg hbit]⟩)
     clear hbit
     go_wp2_with fail
     refine (rfork_calls HM13.out J5 j5 n.f5 n.f4 nw n.f8 (by have:=HF4.out;omega) HX13.out (H.out.node n HNA.out.2).2.1 (fun i m hm=>HCJ.out.at i m hm)).mono ?_
     rintro e w14 hp
     rw [rforkOf_eq _ _ _ _ (H.out.node n HNA.out.2).2.1] at hp
     obtain ⟨rfl,hA⟩:=hp.ok (by have:=HST.out.1.1;rwa [HSD.out.1,HSD.out.2] at this) HST.out.1.2
     have HI6:=z_ (HI.out.put HM.out HIJ.out.1 HIJ.out.2.1 HIJ.out.2.2 HB13.out (fun k hk=>hk) hA)
     have HPF:=z_ (show putF size row cj nw n=putC cj (forkOf size cj n.f4 n.f5 nw n.f8) from by unfold putF;rw [HSD.out.1,HSD.out.2])
     clear hp hA m0 m1 m2 m3 m4 m5 m6 m7 m8 m9
     go_wp2_with fail
     go_roundw
     case measure=>simp only [intOf];have:=hw1;omega
     case rel=>exact ⟨j+1,_,_,_,rfl,rfl,⟨by have:=HK.out;omega,by have:=HK.out;omega,by rw [HST.out.2,HPF.out]⟩,HI6⟩
structure NdG (n:Nd):Prop where
 len:NdLen n
 o9:BytesOk n.f9
 h9:0<n.f9.length
 o1:BytesOk n.f1
 o5:BytesOk n.f5
 f4:n.f4<=9223372036854775807
def CsG (cs:Cs):Prop:=∀n,some n∈cs->NdG n
theorem CsG.ok {cs:Cs} (h:CsG cs):CsOk cs:=fun n hn=>⟨(h n hn).len,(h n hn).o9⟩
theorem CsG.nil:CsG []:=fun n h=>by cases h
theorem CsG.put {cs:Cs} (h:CsG cs) {n:Nd} (hn:NdG n):CsG (putC cs n):=by
 unfold putC
 split
 ·intro m hm
  rcases List.mem_or_eq_of_mem_set hm with h1|h1
  ·exact h m h1
  ·obtain rfl:=Option.some.inj h1
   exact hn
 ·intro m hm
  rcases List.mem_append.1 hm with h1|h1
  ·exact h m h1
  ·obtain rfl:m=n:=by simpa using h1
   exact hn
theorem CsG.at {cs:Cs} (h:CsG cs) {i:Int} {n:Nd} (hn:nodeAt cs i=some n):NdG n:=h n (nodeAt_mem hn)
theorem hashB_pos {size:Int} (hs:1<=size/\size<=32) (tag:Int) (parts:List (List Int)) (hp : ∀p∈parts,p.length<=65535):0<(hashB size tag parts).length:=by
 unfold hashB
 rw [if_neg]
 ·rw [List.length_take,shaSum_length]
  unfold mn mx
  split<;>split<;>omega
 ·rw [List.any_eq_true]
  rintro ⟨p,h1,h2⟩
  have:=hp p h1
  unfold isLong at h2
  have:=of_decide_eq_true h2
  omega
theorem leafNd_g {size:Int} (hs:1<=size/\size<=32) (id key:List Int) (since:Int) (hi:BytesOk id) (h1:id.length<=65535) (h2:key.length<=65535):NdG (leafNd size id key since):=by
 have h:=leafNd_ok size id key since h1 h2
 refine ⟨h.1,h.2,hashB_pos hs _ _ ?_,hi,(fun x hx=>by cases hx),(by show (0:Int)<=9223372036854775807;omega)⟩
 intro p hp
 rcases List.mem_cons.1 hp with rfl|hp
 ·exact h1
 rcases List.mem_cons.1 hp with rfl|hp
 ·exact h2
 obtain rfl:=List.mem_singleton.1 hp
 rw [num8_length]
 omega
theorem forkOf_g {size:Int} (hs:1<=size/\size<=32) {cs:Cs} (h:CsG cs) (depth:Int) (p:List Int) (hp:BytesOk p) (l r:Int) (hb : ¬forkBad cs depth p l r):NdG (forkOf size cs depth p l r):=by
 have hk:=forkOf_ok size depth p l r hb
 cases hl:nodeAt cs l with
 | none=>exact absurd (.inr (.inr (.inr (.inl hl)))) hb
 | some nl=>
   cases hr:nodeAt cs r with
   | none=>exact absurd (.inr (.inr (.inr (.inr hr)))) hb
   | some nr=>
     have e:=forkOf_some size depth p hl hr
     rw [e] at hk ⊢
     have hpl:p.length<=65535:=by
      rcases Nat.lt_or_ge 65535 p.length with h1|h1
      ·exact absurd (.inr (.inr (.inl h1))) hb
      ·exact h1
     have hfl:=firstB_length p depth
     have hfl2:=firstB_length (firstB p depth) depth
     refine ⟨hk.1,hk.2,hashB_pos hs _ _ ?_,(fun x hx=>by cases hx),firstB_ok p hp depth,?_⟩
     ·intro x hx
      rcases List.mem_cons.1 hx with rfl|hx
      ·rw [num8_length];omega
      rcases List.mem_cons.1 hx with rfl|hx
      ·omega
      rcases List.mem_cons.1 hx with rfl|hx
      ·rw [num8_length];omega
      rcases List.mem_cons.1 hx with rfl|hx
      ·exact (h.at hl).len.2.2.2
      obtain rfl:=List.mem_singleton.1 hx
      exact (h.at hr).len.2.2.2
     ·show depth<=_
      have : ¬8*(p.length:Int)<depth:=fun h1=>hb (.inr (.inl h1))
      omega
theorem insF_g {size room:Int} (hs:1<=size/\size<=32) {row:List Int} : ∀ {fs:List Nd} {cs:Cs} {now:Int},CsG cs->(∀n∈fs,BytesOk n.f5)->okF size room row fs cs now->CsG (insF size row fs cs now).1
 | [],cs,now,h,_,_=>h
 | n :: fs,cs,now,h,hf,k=>insF_g (fs:=fs) hs (h.put (forkOf_g hs h _ _ (hf n (by simp)) _ _ k.1.1)) (fun m hm=>hf m (List.mem_cons_of_mem _ hm)) k.2
theorem spot_forks {cs:Cs} {row id:List Int} {root:Int} {t:Option PT} (hs:IsO cs root t) : ∀n∈(findO row id root t).forks,some n∈cs:=by
 cases t with
 | none=>intro n hn;cases hn
 | some t=>
   intro n hn
   obtain ⟨_,hm,_,_,_⟩:=way_find cs row id t root hs
   have h1:some n∈(findT row id root t).forks.map some:=List.mem_map_of_mem hn
   rw [<-hm] at h1
   obtain ⟨i,_,hi⟩:=List.mem_map.1 h1
   exact nodeAt_mem hi
theorem insAll_g {size room:Int} (hs:1<=size/\size<=32) {cs:Cs} (h:CsG cs) {root:Int} {t:Option PT} (ht:IsO cs root t) {id key:List Int} {since:Int} (hi:BytesOk id) (h1:id.length<=65535) (h2:key.length<=65535)
 (hok:InsOk size room (keyB id) id key since (findO (keyB id) id root t) cs):CsG (insAll size (keyB id) id key since (findO (keyB id) id root t) cs).1:=by
 have hl:=h.put (leafNd_g hs id key since hi h1 h2)
 have hst:CsG (insStart size (keyB id) id key since (findO (keyB id) id root t) cs).1:=by
  unfold insStart
  split
  ·rename_i hc
   exact hl.put (forkOf_g hs hl _ _ (keyB_ok id hi) _ _ (hok.part hc).1)
  ·exact hl
 exact insF_g hs hst (fun n hn=>(h n (spot_forks ht n (List.mem_reverse.1 hn))).o5) hok.forks
theorem Good.h_le {size:Int} : ∀(t:PT) (D:Nat),Good size t->(∀m l' r',t = .fork m l' r'->(D:Int)<=m.f4)->D<=2048->t.h+D<=2048
 | .leaf n,D,h,hD,hl=>by
   show 0+D<=_
   omega
 | .fork n l r,D,h,hD,hl=>by
   have h':=h
   obtain ⟨_,hgl,hgr,d,hd,h0,h1⟩:=h'
   have hDd:=hD n l r rfl
   obtain ⟨x,hx⟩:=l.leaves_ne
   have hlt:=(h0 x hx).lt
   have hid:=(h.leaf_ok x (List.mem_append_left _ hx)).1
   rw [keyB_length hid] at hlt
   have:=hid.2
   have a1:=Good.h_le l (d+1) hgl (h.kid_low d hd l (.inl rfl)) (by omega)
   have a2:=Good.h_le r (d+1) hgr (h.kid_low d hd r (.inr rfl)) (by omega)
   show max l.h r.h+1+D<=_
   omega
theorem GoodO.h_le {size:Int} {t:Option PT} (h:GoodO size t):heightO t<=2048:=by
 cases t with
 | none=>exact Nat.zero_le _
 | some t=>exact Good.h_le t 0 h (fun m l r e=>by subst e;exact h.pre_len.1) (by omega)
theorem GoodO.way {size:Int} {t:Option PT} (h:GoodO size t) {id:List Int} (hid:IdOk id) (root:Int):(wayO (keyB id) root t).1.length<=8*(keyB id).length:=by
 cases t with
 | none=>exact Nat.zero_le _
 | some t=>exact Good.way_len hid t root 0 h (fun m l r e=>by subst e;exact h.pre_len.1) (by omega)
structure TreeIn (size:Int) (cs:Cs) (root:Int) (t:Option PT):Prop where
 at_:IsO cs root t
 good:GoodO size t
 g:CsG cs
theorem TreeIn.root {size:Int} {cs:Cs} {root:Int} {t:PT} (h:TreeIn size cs root (some t)):root≠ -1/\∃n,nodeAt cs root=some n:=by
 have:=IsT.at h.at_
 refine ⟨fun e=>?_,_,this⟩
 rw [e,nodeAt_neg cs (-1) (by omega)] at this
 cases this
def InsOut (cs:Cs) (size room root:Int) (id key:List Int) (since:Int) (t:Option PT) (i er:Int) (cs':Cs):Prop:=
 ((badRoot cs root\/badIns id key since)/\i=0/\er=1/\cs'=cs)\/
 (¬(badRoot cs root\/badIns id key since)/\room-(usedN cs:Int)<((findO (keyB id) id root t).needs:Int)/\i=0/\er=4/\cs'=cs)\/
 (¬(badRoot cs root\/badIns id key since)/\¬room-(usedN cs:Int)<((findO (keyB id) id root t).needs:Int)/\i=(insAll size (keyB id) id key since (findO (keyB id) id root t) cs).2/\er=0/\cs'=(insAll size (keyB id) id key since (findO (keyB id) id root t) cs).1)
theorem InsOut.same {cs:Cs} {size room root:Int} {id key:List Int} {since:Int} {t:Option PT} {i er j f:Int} {cs1 cs2:Cs} (h:InsOut cs size room root id key since t i er cs1) (k:InsOut cs size room root id key since t j f cs2):j=i/\f=er/\cs2=cs1:=by
 rcases h with ⟨h1,rfl,rfl,rfl⟩|⟨h1,h2,rfl,rfl,rfl⟩|⟨h1,h2,rfl,rfl,rfl⟩<;>rcases k with ⟨k1,rfl,rfl,rfl⟩|⟨k1,k2,rfl,rfl,rfl⟩|⟨k1,k2,rfl,rfl,rfl⟩<;>first|exact ⟨rfl,rfl,rfl⟩|exact absurd h1 k1|exact absurd k1 h1|exact absurd h2 k2|exact absurd k2 h2
theorem not_badIns {id key:List Int} {since:Int} (h : ¬badIns id key since) (ho:BytesOk id) (hk:BytesOk key):LfOk ⟨id,key,since⟩:=by
 unfold badIns at h
 exact ⟨⟨ho,by show id.length<=255;omega⟩,hk,by show key.length<=65535;omega,by show 0<=since;omega⟩
theorem TreeIn.insOk {cs:Cs} {size room root:Int} {id key:List Int} {since:Int} {t:Option PT} (h:TreeIn size cs root t) (ho:BytesOk id) (hk:BytesOk key) (hb : ¬badIns id key since) (hf : ¬room-(usedN cs:Int)<((findO (keyB id) id root t).needs:Int)):
 InsOk size room (keyB id) id key since (findO (keyB id) id root t) cs:=
 (insert_tree (x:=⟨id,key,since⟩) h.at_ h.good (not_badIns hb ho hk) (by show ((findO (keyB id) id root t).needs:Int)<=_;omega)).1
theorem TreeIn.insert {cs:Cs} {size room root:Int} {id key:List Int} {since:Int} {t:Option PT} (hs:1<=size/\size<=32) (h:TreeIn size cs root t) (ho:BytesOk id) (hk:BytesOk key) (hb : ¬badIns id key since) (hf : ¬room-(usedN cs:Int)<((findO (keyB id) id root t).needs:Int)):
 ∃t',TreeIn size (insAll size (keyB id) id key since (findO (keyB id) id root t) cs).1 (insAll size (keyB id) id key since (findO (keyB id) id root t) cs).2 (some t')/\Ext cs (insAll size (keyB id) id key since (findO (keyB id) id root t) cs).1/\
  usedN (insAll size (keyB id) id key since (findO (keyB id) id root t) cs).1=usedN cs+(findO (keyB id) id root t).needs/\
  ∃A S B N,leavesO t=A++S++B/\t'.leaves=A++N++B/\(∀y∈A++B,y.id≠id)/\(((∀y∈S,y.id=id)/\N = [⟨id,key,since⟩])\/((∀y∈S,y.id≠id)/\(N=⟨id,key,since⟩ :: S\/N=S++[⟨id,key,since⟩]))):=by
 obtain ⟨_,t',h1,h2,h3,h4,h5⟩:=insert_tree (room:=room) (x:=⟨id,key,since⟩) h.at_ h.good (not_badIns hb ho hk) (by show ((findO (keyB id) id root t).needs:Int)<=_;omega)
 unfold badIns at hb
 exact ⟨t',⟨h1,h2,insAll_g hs h.g h.at_ ho (by omega) (by omega) (h.insOk (room:=room) ho hk (by unfold badIns;omega) hf)⟩,h3,h4,h5⟩
theorem TreeIn.ways {size:Int} {cs:Cs} {root:Int} {t:Option PT} (ht:TreeIn size cs root t) (id:List Int) (hr : ¬badRoot cs root):(root = -1->(findO (keyB id) id root t).at_ = -1)/\(root≠ -1->(findO (keyB id) id root t).at_≠ -1):=by
 cases t with
 | none=>exact ⟨fun _=>rfl,fun hn=>absurd ⟨hn,ht.at_⟩ hr⟩
 | some t1=>
   refine ⟨fun h=>absurd h ht.root.1,fun _=>?_⟩
   obtain ⟨_,_,h3,_,_⟩:=way_find cs (keyB id) id t1 root ht.at_
   have:=nodeAt_lt (show (nodeAt cs (findT (keyB id) id root t1).at_).isSome=true by rw [h3];rfl)
   show (findT (keyB id) id root t1).at_≠ -1
   omega
theorem insert_calls {w:World} {base p:Nat} {size room:Int} {vc vf:Value} {X:Nat->Prop} {cs:Cs} {A1 A2:Option Addr} {c1 c2:Nat} {id key:List Int} (h:InsPre w base p size room vc vf X cs A1 A2 c1 c2 id key) (root since:Int) (t:Option PT) (ht:TreeIn size cs root t):
 Calls Tryz.prog 9 #[.pointer (some ⟨p,0,none⟩),.int .i64 root,.slice A1 id.length c1,.slice A2 key.length c2,.int .i64 since] w fun e w'=>∃i er cs',InsOut cs size room root id key since t i er cs'/\InsP w w' base p size room vc vf X cs' i er e:=by
 have hos : ∀n,some n∈cs->BytesOk n.f1/\BytesOk n.f5:=fun n hn=>⟨(ht.g n hn).o1,(ht.g n hn).o5⟩
 have hh:heightO t<=100000:=by have:=ht.good.h_le;omega
 by_cases hr:badRoot cs root
 ·exact (insert_root h root since hr.1 hr.2).mono fun e w' hp=>⟨_,_,_,.inl ⟨.inl hr,rfl,rfl,rfl⟩,hp⟩
 have hnd:root≠ -1->∃n,nodeAt cs root=some n:=fun hn=>by
  cases hx:nodeAt cs root with
  | none=>exact absurd ⟨hn,hx⟩ hr
  | some n=>exact ⟨n,rfl⟩
 have hroot:root = -1\/(root≠ -1/\∃n,nodeAt cs root=some n):=by
  by_cases h1:root = -1
  ·exact .inl h1
  ·exact .inr ⟨h1,hnd h1⟩
 by_cases hb:badIns id key since
 ·exact (insert_bad h root since hroot hb).mono fun e w' hp=>⟨_,_,_,.inl ⟨.inr hb,rfl,rfl,rfl⟩,hp⟩
 have hnb : ¬(badRoot cs root\/badIns id key since):=fun h=>h.elim hr hb
 by_cases hf:room-(usedN cs:Int)<((findO (keyB id) id root t).needs:Int)
 ·exact (insert_full h root since hroot hb hos t ht.at_ hh hf).mono fun e w' hp=>⟨_,_,_,.inr (.inl ⟨hnb,hf,rfl,rfl,rfl⟩),hp⟩
 obtain ⟨hp0,hp1⟩:=ht.ways id hr
 exact (insert_ok h root since hroot hb hos t ht.at_ hh hf (ht.insOk (room:=room) h.ido h.keyo hb hf) hp0 hp1).mono fun e w' hp=>⟨_,_,_,.inr (.inr ⟨hnb,hf,rfl,rfl,rfl⟩),hp⟩
theorem rinsert_calls {w:World} {base q:Nat} {size most:Int} {vl:Value} {X:Nat->Prop} {cs:Cs} {A1 A2:Option Addr} {c1 c2:Nat} {id key:List Int} (h:RefPre w base q size most vl X cs A1 A2 c1 c2 id key) (root since:Int) (t:Option PT) (ht:TreeIn size cs root t):
 Calls Tryz.prog 10 #[.pointer (some ⟨q,0,none⟩),.int .i64 root,.slice A1 id.length c1,.slice A2 key.length c2,.int .i64 since] w fun e w'=>∃i er cs',InsOut cs size most root id key since t i er cs'/\RInsP w w' base q size most vl X cs' i er e:=by
 by_cases hr:badRoot cs root
 ·exact (rinsert_root h root since hr.1 hr.2).mono fun e w' hp=>⟨_,_,_,.inl ⟨.inl hr,rfl,rfl,rfl⟩,hp⟩
 have hnd:root≠ -1->(nodeAt cs root).isSome=true:=fun hn=>by
  cases hx:nodeAt cs root with
  | none=>exact absurd ⟨hn,hx⟩ hr
  | some n=>rfl
 have hroot:root = -1\/(root≠ -1/\(nodeAt cs root).isSome=true):=by
  by_cases h1:root = -1
  ·exact .inl h1
  ·exact .inr ⟨h1,hnd h1⟩
 by_cases hb:badIns id key since
 ·exact (rinsert_bad h root since hroot hb).mono fun e w' hp=>⟨_,_,_,.inl ⟨.inr hb,rfl,rfl,rfl⟩,hp⟩
 have hnb : ¬(badRoot cs root\/badIns id key since):=fun h=>h.elim hr hb
 have hw:(wayO (keyB id) root t).1.length<=8*(keyB id).length:=ht.good.way (not_badIns hb h.ido h.keyo).1 root
 by_cases hf:most-(usedN cs:Int)<((findO (keyB id) id root t).needs:Int)
 ·exact (rinsert_full h root since hroot hb t ht.at_ hw hf).mono fun e w' hp=>⟨_,_,_,.inr (.inl ⟨hnb,hf,rfl,rfl,rfl⟩),hp⟩
 obtain ⟨hp0,hp1⟩:=ht.ways id hr
 exact (rinsert_ok h root since hroot hb t ht.at_ hw hf (ht.insOk (room:=most) h.ido h.keyo hb hf) hp0 hp1).mono fun e w' hp=>⟨_,_,_,.inr (.inr ⟨hnb,hf,rfl,rfl,rfl⟩),hp⟩
theorem results_item (W:World) (g:Nat) {y0 y1 y2:Value} (h:ItB W g [y0,y1,y2]) (tm:Array Value) (h2:tm[2]?.getD undef = .pointer (some ⟨g,0,none⟩)):(results Tryz.f37 tm).run Tryz.prog W = .ok (.agg #[y0,y1,y2]) W:=by
 obtain ⟨c0,c1,c2⟩:=h.cells
 simp [results,Tryz.results37,go_sem,h2,c0,c1,c2]
set_option maxRecDepth 100000 in
theorem item_calls (w:World) (y0 y4 y5 y6 y7 y8 y9:Value) (A1 A2:Option Addr) (n1 c1 n2 c2:Nat) (s:Int):
 Calls Tryz.prog 37 #[.agg #[y0,.slice A1 n1 c1,.slice A2 n2 c2,.int .i64 s,y4,y5,y6,y7,y8,y9]] w fun e w'=>e = .returned (.agg #[.slice A1 n1 c1,.slice A2 n2 c2,.int .i64 s])/\Below w.heap.size w w':=by
 go_enter Tryz.func37,Tryz.ntmps37
 go_wp2_with fail
 refine bodyPost_ret (results_item _ (w.heap.size+1) (show ItB _ (w.heap.size+1) [.slice A1 n1 c1,.slice A2 n2 c2,.int .i64 s] from ?_) _ rfl) rfl ⟨rfl,?_⟩
 ·have h:=heap_alloc_new (w.alloc (.cells #[y0,.slice A1 n1 c1,.slice A2 n2 c2,.int .i64 s,y4,y5,y6,y7,y8,y9] 59)) (.cells #[.slice A1 n1 c1,.slice A2 n2 c2,.int .i64 s] 40)
  rw [World.size_alloc] at h
  exact h
 ·exact below_alloc (below_alloc (Below.refl _ _) _) _
theorem results_pget (W:World) (g:Nat) {y0 y1 y2:Value} (b:Bool) (h:ItB W g [y0,y1,y2]) (tm:Array Value) (h6:tm[6]?.getD undef = .pointer (some ⟨g,0,none⟩)) (h7:tm[7]?.getD undef = .bool b):(results Tryz.f11 tm).run Tryz.prog W = .ok (.tuple #[.agg #[y0,y1,y2],.bool b]) W:=by
 obtain ⟨c0,c1,c2⟩:=h.cells
 simp [results,Tryz.results11,go_sem,h6,h7,c0,c1,c2]
set_option maxHeartbeats 8000000 in
set_option maxRecDepth 100000 in
theorem get_calls {w:World} {base p:Nat} {size room:Int} {vc vf:Value} {X:Nat->Prop} {cs:Cs} (h:ArenaM w base p size room vc vf X cs) (root:Int) (t0:Option PT) (ht:TreeIn size cs root t0) (A:Option Addr) (c:Nat) (id:List Int) (hid:Kd.C (Kd.int .u8) w A id.length id) (hc:id.length<=c) (ho:BytesOk id):
 Calls Tryz.prog 11 #[.pointer (some ⟨p,0,none⟩),.int .i64 root,.slice A id.length c] w fun e w'=>ItV w' (fun k=>X k\/w.heap.size<=k) (findO (keyB id) id root t0).item e/\Below w.heap.size w w':=by
 have HA:=z_ h
 have HT:=z_ ht
 have HID:=z_ (And.intro hid (And.intro hc ho))
 clear h ht hid hc ho
 go_enter Tryz.func11,Tryz.ntmps11
 obtain ⟨w1,hw1⟩ : ∃w1,w1=w.alloc (.cells #[.slice none 0 0,.slice none 0 0,.int .i64 0] 40):=⟨_,rfl⟩
 have HB1:=z_ (show Below w.heap.size w w1 from by rw [hw1];exact below_alloc (Below.refl _ _) _)
 have HG1:=z_ (show ItB w1 w.heap.size [.slice none 0 0,.slice none 0 0,.int .i64 0] from by rw [hw1];exact heap_alloc_new w _)
 go_wp2_with fail
 rw [<-hw1]
 clear hw1
 obtain ⟨g,hg⟩ : ∃g,g=w.heap.size:=⟨_,rfl⟩
 rw [<-hg] at HG1
 rw [<-hg]
 have HGE:=z_ hg
 clear hg
 refine (find_calls (HA.out.below HB1.out) HT.out.g.ok root A c id (Kd.C_below HID.out.1 HB1.out) HID.out.2.1 HID.out.2.2 (fun n hn=>(HT.out.g n hn).o1) t0 HT.out.at_ (by have:=HT.out.good.h_le;omega)).mono ?_
 rintro e w3 ⟨⟨va,Z,E1,E2,E5,E9,e1,e2,e5,e9,rfl,hF,hZ,x1,x2,x5,x9⟩,hb⟩
 obtain ⟨s,hs⟩ : ∃s,s=findO (keyB id) id root t0:=⟨_,rfl⟩
 rw [<-hs] at x1 x2
 rw [<-hs]
 obtain ⟨Af,nf,cf,rfl⟩ : ∃Af nf cf,va = .slice Af nf cf:=by
  obtain ⟨rows,hR,_⟩:=hF.mem
  exact formR hR
 have HX:=z_ (And.intro x1 x2)
 have HZ:=z_ (show ∀k,Z k->(X k\/w.heap.size<=k)/\k<w3.heap.size/\k≠g from fun k hk=>by
  have h1:=(hF.sep k hk).1
  have h2:=HB1.out.size
  have h3:=blk_lt HG1.out
  rcases hZ k hk with h|h
  ·have h4:=(HA.out.sep k h).1
   exact ⟨.inl h,h1,by have:=HGE.out;omega⟩
  ·exact ⟨.inr (by omega),h1,by omega⟩)
 have HB3:=z_ (below_step HB1.out hb)
 have HG3:=z_ (HG1.out.below hb)
 have HSS:=z_ hs
 clear hs hF hZ x1 x2 x5 x9 hb
 obtain ⟨sm,hsm⟩ : ∃b,b=s.same:=⟨_,rfl⟩
 rw [<-hsm]
 have HSM:=z_ hsm
 clear hsm
 cases sm with
 | true=>
   obtain ⟨w4,hw4⟩ : ∃w4,w4=w3.alloc (.cells #[.slice Af nf cf,.int .i64 s.at_,.bool s.node.f0,.slice E1 s.node.f1.length e1,.slice E2 s.node.f2.length e2,.int .i64 s.node.f3,.int .i64 s.node.f4,.slice E5 s.node.f5.length e5,.int .i64 s.node.f6,.int .i64 s.node.f7,.int .i64 s.node.f8,.slice E9 s.node.f9.length e9,.bool true] 61):=⟨_,rfl⟩
   have HB43:=z_ (show Below w3.heap.size w3 w4 from by rw [hw4];exact below_alloc (Below.refl _ _) _)
   have hg4:ItB (w3.alloc (.cells #[.slice Af nf cf,.int .i64 s.at_,.bool s.node.f0,.slice E1 s.node.f1.length e1,.slice E2 s.node.f2.length e2,.int .i64 s.node.f3,.int .i64 s.node.f4,.slice E5 s.node.f5.length e5,.int .i64 s.node.f6,.int .i64 s.node.f7,.int .i64 s.node.f8,.slice E9 s.node.f9.length e9,.bool true] 61)) g [.slice none 0 0,.slice none 0 0,.int .i64 0]:=by rw [<-hw4];exact HG3.out.below HB43.out
   have HG4:=z_ (show ItB w4 g [.slice none 0 0,.slice none 0 0,.int .i64 0] from HG3.out.below HB43.out)
   go_wp2_with fail
   rw [<-hw4]
   clear hw4 hg4
   refine (item_calls w4 (.bool s.node.f0) (.int .i64 s.node.f4) (.slice E5 s.node.f5.length e5) (.int .i64 s.node.f6) (.int .i64 s.node.f7) (.int .i64 s.node.f8) (.slice E9 s.node.f9.length e9) E1 E2 s.node.f1.length e1 s.node.f2.length e2 s.node.f3).mono ?_
   rintro e w5 ⟨rfl,hb⟩
   have HG5:=z_ (HG4.out.below hb)
   have HB5:=z_ (below_step HB3.out (below_step HB43.out hb))
   have HB53:=z_ (below_step HB43.out hb)
   clear hb
   obtain ⟨z0,z1,z2⟩:=HG5.out.cells
   obtain ⟨f0,f1,f2⟩:=HG5.out.frozen
   go_wp2_with fail
   refine bodyPost_ret (results_pget _ g true (putI_nd HG5.out (.slice E1 s.node.f1.length e1) (.slice E2 s.node.f2.length e2) (.int .i64 s.node.f3)) _ rfl rfl) rfl ⟨?_,putI_below HB5.out (by rw [HGE.out];exact Nat.le_refl _) _ _ _⟩
   rw [<-HSS.out,show s.item=⟨s.node.f1,s.node.f2,s.node.f3,true⟩ from by unfold Spot.item;rw [<-HSM.out];rfl]
   have hst : ∀k,Z k->k<w3.heap.size->(putI w5 g (.slice E1 s.node.f1.length e1) (.slice E2 s.node.f2.length e2) (.int .i64 s.node.f3)).heap[k]? = w3.heap[k]? := fun k hk hl=>by
    rw [putI_far (HZ.out k hk).2.2]
    exact HB53.out.block k hl
   exact ⟨E1,E2,e1,e2,rfl,Kd.V_mono (Kd.V_step HX.out.1 hst) (fun k hk=>(HZ.out k hk).1),Kd.V_mono (Kd.V_step HX.out.2 hst) (fun k hk=>(HZ.out k hk).1)⟩
 | false=>
   obtain ⟨w4,hw4⟩ : ∃w4,w4=w3.alloc (.cells #[.slice Af nf cf,.int .i64 s.at_,.bool s.node.f0,.slice E1 s.node.f1.length e1,.slice E2 s.node.f2.length e2,.int .i64 s.node.f3,.int .i64 s.node.f4,.slice E5 s.node.f5.length e5,.int .i64 s.node.f6,.int .i64 s.node.f7,.int .i64 s.node.f8,.slice E9 s.node.f9.length e9,.bool false] 61):=⟨_,rfl⟩
   have HB43:=z_ (show Below w3.heap.size w3 w4 from by rw [hw4];exact below_alloc (Below.refl _ _) _)
   have hg4:ItB (w3.alloc (.cells #[.slice Af nf cf,.int .i64 s.at_,.bool s.node.f0,.slice E1 s.node.f1.length e1,.slice E2 s.node.f2.length e2,.int .i64 s.node.f3,.int .i64 s.node.f4,.slice E5 s.node.f5.length e5,.int .i64 s.node.f6,.int .i64 s.node.f7,.int .i64 s.node.f8,.slice E9 s.node.f9.length e9,.bool false] 61)) g [.slice none 0 0,.slice none 0 0,.int .i64 0]:=by rw [<-hw4];exact HG3.out.below HB43.out
   have HG4:=z_ (show ItB w4 g [.slice none 0 0,.slice none 0 0,.int .i64 0] from HG3.out.below HB43.out)
   obtain ⟨z0,z1,z2⟩:=hg4.cells
   obtain ⟨f0,f1,f2⟩:=hg4.frozen
   go_wp2_with fail
   rw [<-hw4]
   clear hw4 hg4 z0 z1 z2 f0 f1 f2
   refine bodyPost_ret (results_pget _ g false (putI_nd HG4.out (.slice none 0 0) (.slice none 0 0) (.int .i64 0)) _ rfl rfl) rfl ⟨?_,putI_below (below_step HB3.out HB43.out) (by rw [HGE.out];exact Nat.le_refl _) _ _ _⟩
   rw [<-HSS.out,show s.item=⟨[],[],0,false⟩ from by unfold Spot.item;rw [<-HSM.out];rfl]
   exact ⟨none,none,0,0,rfl,Kd.V_nil _ _ _ _ _,Kd.V_nil _ _ _ _ _⟩
end Go.Proofs.YtdeneoknjeegbaaGreatDoor.P
end
section
namespace Go.Proofs.YtdeneoknjeegbaaGreatDoor.P
open Go Go.RowKit YtdeneoknjeegbaaGreatDoor.Pure YtdeneoknjeegbaaGreatDoorW.PrintWords YtdeneoknjeegbaaGreatDoorW.PrintLast YtdeneoknjeegbaaGreatDoorW.PrintMore
set_option maxRecDepth 100000 in
theorem walk_none {w:World} {base p:Nat} {size room:Int} {vc vf:Value} {X:Nat->Prop} {cs:Cs} (h:ArenaM w base p size room vc vf X cs) (i above:Int) (hi:nodeAt cs i=none) (fv:Value):
 Calls Tryz.prog 68 #[.pointer (some ⟨p,0,none⟩),.int .i64 i,.int .i64 above,fv] w fun e w'=>e = .returned (.tuple #[])/\Below w.heap.size w w':=by
 have HA:=z_ h
 have HI:=z_ hi
 clear h hi
 go_enter Tryz.func68,Tryz.ntmps68
 go_wp2_with fail
 refine (nodeA_calls HA.out i (fun n hn=>by rw [HI.out] at hn;cases hn)).mono ?_
 rintro e w1 ⟨hN,hb⟩
 rw [HI.out] at hN
 obtain rfl:e = .returned (.tuple #[.agg zeroR.toArray,.bool false]):=hN
 have HB:=z_ hb
 clear hb
 unfold zeroR
 go_wp2_with fail
 refine bodyPost_ret (results_none rfl _ _ _) rfl ?_
 exact ⟨rfl,below_alloc HB.out _⟩
def walkS {β:Type} (step:β->Nd->Nat->β):β->PT->Nat->β
 | b,.leaf n,a=>step b n a
 | b,.fork n l r,a=>walkS step (walkS step (step b n a) l (a+1)) r (a+1)
structure SeeP {β:Type} (fn:FuncId) (g:Nat) (base p:Nat) (size room:Int) (vc vf:Value) (X:Nat->Prop) (cs:Cs) (I:β->(Nat->Prop)->World->Prop) (step:β->Nd->Nat->β):Prop where
 arena : ∀b O W,I b O W->ArenaM W base p size room vc vf X cs
 lt : ∀b O W k,I b O W->O k->k<W.heap.size
 sep : ∀b O W k,I b O W->X k->¬O k
 below : ∀b O W W',I b O W->Below W.heap.size W W'->I b O W'
 see : ∀b O W (n:Nd) (D1 D2 D5 D9:Option Addr) (d1 d2 d5 d9:Nat) (above:Nat),above<=100000->I b O W->BX W (fun k=>k<W.heap.size/\¬O k) (.slice D1 n.f1.length d1) n.f1->BX W (fun k=>k<W.heap.size/\¬O k) (.slice D2 n.f2.length d2) n.f2->
  Calls Tryz.prog fn #[.agg #[.bool n.f0,.slice D1 n.f1.length d1,.slice D2 n.f2.length d2,.int .i64 n.f3,.int .i64 n.f4,.slice D5 n.f5.length d5,.int .i64 n.f6,.int .i64 n.f7,.int .i64 n.f8,.slice D9 n.f9.length d9],.int .i64 (above:Int),.pointer (some ⟨g,0,none⟩)] W fun e W'=>e = .returned (.tuple #[])/\∃O',I (step b n above) O' W'/\Kept W W' O/\Grew W O O'
set_option maxHeartbeats 8000000 in
set_option maxRecDepth 100000 in
theorem walkD_calls {β:Type} {g base p:Nat} {size room:Int} {vc vf:Value} {X:Nat->Prop} {cs:Cs} {I:β->(Nat->Prop)->World->Prop} {step:β->Nd->Nat->β} (hP:SeeP 70 g base p size room vc vf X cs I step) (hcs:CsOk cs) (t:PT):
 ∀(i:Int) (above:Nat) (b:β) (O:Nat->Prop) (W:World),t.h+above<=100000->IsT cs i t->I b O W->
  Calls Tryz.prog 68 #[.pointer (some ⟨p,0,none⟩),.int .i64 i,.int .i64 (above:Int),.func (.func 70) #[] #[.pointer (some ⟨g,0,none⟩)]] W fun e W'=>e = .returned (.tuple #[])/\∃O',I (walkS step b t above) O' W'/\Kept W W' O/\Grew W O O':=by
 have HP:=z_ hP
 have HCS:=z_ hcs
 clear hP hcs
 induction t with
 | leaf n=>
   intro i above b O W hh hT hI
   have HT:=z_ hT
   have HI:=z_ hI
   have HH:=z_ hh
   have hf0:n.f0=true:=hT.2
   have HNA:=z_ (show nodeAt cs i=some n from hT.1)
   clear hT hI hh
   go_enter Tryz.func68,Tryz.ntmps68
   go_wp2_with fail
   refine (nodeA_calls (HP.out.arena _ _ _ HI.out) i (fun m hm=>(HCS.out.at i m hm).1)).mono ?_
   rintro e w1 ⟨hN,hb⟩
   rw [HNA.out] at hN
   obtain ⟨D1,D2,D5,D9,d1,d2,d5,d9,rfl,x1,x2,x5,x9⟩:=hN
   have HB1:=z_ hb
   have HLT:=z_ (show ∀k,O k->k<W.heap.size from fun k hk=>HP.out.lt _ _ _ k HI.out hk)
   have HX:=z_ (show BX w1 (fun k=>(X k\/W.heap.size<=k)/\k<w1.heap.size) (.slice D1 n.f1.length d1) n.f1/\BX w1 (fun k=>(X k\/W.heap.size<=k)/\k<w1.heap.size) (.slice D2 n.f2.length d2) n.f2 from ⟨Kd.V_bound x1,Kd.V_bound x2⟩)
   rw [hf0]
   clear x1 x2 x5 x9 hb
   obtain ⟨w2,hw2⟩ : ∃w2,w2=w1.alloc (.cells #[.bool true,.slice D1 n.f1.length d1,.slice D2 n.f2.length d2,.int .i64 n.f3,.int .i64 n.f4,.slice D5 n.f5.length d5,.int .i64 n.f6,.int .i64 n.f7,.int .i64 n.f8,.slice D9 n.f9.length d9] 59):=⟨_,rfl⟩
   have HN2:=z_ (show NdB w2 w1.heap.size [.bool true,.slice D1 n.f1.length d1,.slice D2 n.f2.length d2,.int .i64 n.f3,.int .i64 n.f4,.slice D5 n.f5.length d5,.int .i64 n.f6,.int .i64 n.f7,.int .i64 n.f8,.slice D9 n.f9.length d9] from by rw [hw2];exact heap_alloc_new w1 _)
   have HB2:=z_ (show Below w1.heap.size w1 w2 from by rw [hw2];exact below_alloc (Below.refl _ _) _)
   go_wp2_with fail
   rw [<-hw2]
   clear hw2
   obtain ⟨g1,hg1⟩ : ∃x,x=w1.heap.size:=⟨_,rfl⟩
   rw [<-hg1] at HN2
   rw [<-hg1]
   have HG1:=z_ hg1
   clear hg1
   have HI2:=z_ (HP.out.below _ _ _ _ HI.out (below_step HB1.out HB2.out))
   have HB:=z_ (below_step HB1.out HB2.out)
   have hsee:=HP.out.see b O w2 n D1 D2 D5 D9 d1 d2 d5 d9 above (by have:=HH.out;omega) HI2.out (Kd.V_mono (Kd.V_below HX.out.1 HB2.out) (fun k hk=>⟨by have:=HB2.out.size;omega,fun ho=>by have:=HLT.out k ho;rcases hk.1 with h|h;exact HP.out.sep _ _ _ k HI.out h ho;omega⟩)) (Kd.V_mono (Kd.V_below HX.out.2 HB2.out) (fun k hk=>⟨by have:=HB2.out.size;omega,fun ho=>by have:=HLT.out k ho;rcases hk.1 with h|h;exact HP.out.sep _ _ _ k HI.out h ho;omega⟩))
   rw [hf0] at hsee
   refine hsee.mono ?_
   rintro e w3 ⟨rfl,O1,hI3,hk3,hg3⟩
   have HI3:=z_ hI3
   have HK3:=z_ (And.intro hk3 hg3)
   have HGO:=z_ (show ∀Q:Nat->Prop,Grew w2 O Q->¬Q g1 from fun Q hQ ho=>by
    have h1:=HB1.out.size
    have h2:=HG1.out
    have h3:=blk_lt HN2.out
    rcases hQ g1 ho with h|h
    ·have:=HLT.out g1 h
     omega
    ·omega)
   have HN3:=z_ (show NdB w3 g1 [.bool true,.slice D1 n.f1.length d1,.slice D2 n.f2.length d2,.int .i64 n.f3,.int .i64 n.f4,.slice D5 n.f5.length d5,.int .i64 n.f6,.int .i64 n.f7,.int .i64 n.f8,.slice D9 n.f9.length d9] from (hk3.2 g1 (blk_lt HN2.out) (HGO.out O (Grew.refl _ _))).trans HN2.out)
   clear hsee hI3 hk3 hg3
   obtain ⟨m0,m1,m2,m3,m4,m5,m6,m7,m8,m9⟩:=HN3.out.cells
   go_wp2_with fail
   go_end0
   exact ⟨rfl,O1,HI3.out,⟨by have:=HB.out.size;have:=HK3.out.1.1;omega,fun k hk ho=>(HK3.out.1.2 k (by have:=HB.out.size;omega) ho).trans (HB.out.block k hk)⟩,fun k hk=>(HK3.out.2 k hk).imp (fun x=>x) (fun h=>by have:=HB.out.size;omega)⟩
 | fork n l r ihl ihr=>
   intro i above b O W hh hT hI
   have HT:=z_ hT
   have HI:=z_ hI
   have HH:=z_ hh
   have hf0:n.f0=false:=hT.2.1
   have HNA:=z_ (show nodeAt cs i=some n from hT.1)
   clear hT hI hh
   go_enter Tryz.func68,Tryz.ntmps68
   go_wp2_with fail
   refine (nodeA_calls (HP.out.arena _ _ _ HI.out) i (fun m hm=>(HCS.out.at i m hm).1)).mono ?_
   rintro e w1 ⟨hN,hb⟩
   rw [HNA.out] at hN
   obtain ⟨D1,D2,D5,D9,d1,d2,d5,d9,rfl,x1,x2,x5,x9⟩:=hN
   have HB1:=z_ hb
   have HLT:=z_ (show ∀k,O k->k<W.heap.size from fun k hk=>HP.out.lt _ _ _ k HI.out hk)
   have HX:=z_ (show BX w1 (fun k=>(X k\/W.heap.size<=k)/\k<w1.heap.size) (.slice D1 n.f1.length d1) n.f1/\BX w1 (fun k=>(X k\/W.heap.size<=k)/\k<w1.heap.size) (.slice D2 n.f2.length d2) n.f2 from ⟨Kd.V_bound x1,Kd.V_bound x2⟩)
   rw [hf0]
   clear x1 x2 x5 x9 hb
   obtain ⟨w2,hw2⟩ : ∃w2,w2=w1.alloc (.cells #[.bool false,.slice D1 n.f1.length d1,.slice D2 n.f2.length d2,.int .i64 n.f3,.int .i64 n.f4,.slice D5 n.f5.length d5,.int .i64 n.f6,.int .i64 n.f7,.int .i64 n.f8,.slice D9 n.f9.length d9] 59):=⟨_,rfl⟩
   have HN2:=z_ (show NdB w2 w1.heap.size [.bool false,.slice D1 n.f1.length d1,.slice D2 n.f2.length d2,.int .i64 n.f3,.int .i64 n.f4,.slice D5 n.f5.length d5,.int .i64 n.f6,.int .i64 n.f7,.int .i64 n.f8,.slice D9 n.f9.length d9] from by rw [hw2];exact heap_alloc_new w1 _)
   have HB2:=z_ (show Below w1.heap.size w1 w2 from by rw [hw2];exact below_alloc (Below.refl _ _) _)
   go_wp2_with fail
   rw [<-hw2]
   clear hw2
   obtain ⟨g1,hg1⟩ : ∃x,x=w1.heap.size:=⟨_,rfl⟩
   rw [<-hg1] at HN2
   rw [<-hg1]
   have HG1:=z_ hg1
   clear hg1
   have HI2:=z_ (HP.out.below _ _ _ _ HI.out (below_step HB1.out HB2.out))
   have HB:=z_ (below_step HB1.out HB2.out)
   have hsee:=HP.out.see b O w2 n D1 D2 D5 D9 d1 d2 d5 d9 above (by have:=HH.out;omega) HI2.out (Kd.V_mono (Kd.V_below HX.out.1 HB2.out) (fun k hk=>⟨by have:=HB2.out.size;omega,fun ho=>by have:=HLT.out k ho;rcases hk.1 with h|h;exact HP.out.sep _ _ _ k HI.out h ho;omega⟩)) (Kd.V_mono (Kd.V_below HX.out.2 HB2.out) (fun k hk=>⟨by have:=HB2.out.size;omega,fun ho=>by have:=HLT.out k ho;rcases hk.1 with h|h;exact HP.out.sep _ _ _ k HI.out h ho;omega⟩))
   rw [hf0] at hsee
   refine hsee.mono ?_
   rintro e w3 ⟨rfl,O1,hI3,hk3,hg3⟩
   have HI3:=z_ hI3
   have HK3:=z_ (And.intro hk3 hg3)
   have HGO:=z_ (show ∀Q:Nat->Prop,Grew w2 O Q->¬Q g1 from fun Q hQ ho=>by
    have h1:=HB1.out.size
    have h2:=HG1.out
    have h3:=blk_lt HN2.out
    rcases hQ g1 ho with h|h
    ·have:=HLT.out g1 h
     omega
    ·omega)
   have HN3:=z_ (show NdB w3 g1 [.bool false,.slice D1 n.f1.length d1,.slice D2 n.f2.length d2,.int .i64 n.f3,.int .i64 n.f4,.slice D5 n.f5.length d5,.int .i64 n.f6,.int .i64 n.f7,.int .i64 n.f8,.slice D9 n.f9.length d9] from (hk3.2 g1 (blk_lt HN2.out) (HGO.out O (Grew.refl _ _))).trans HN2.out)
   clear hsee hI3 hk3 hg3
   obtain ⟨m0,m1,m2,m3,m4,m5,m6,m7,m8,m9⟩:=HN3.out.cells
   have hw1:wrap64 ((above:Int)+1)=((above+1:Nat):Int):=by rw [wrap64_id _ (by have:=HH.out;omega)];omega
   have HHL:=z_ (show l.h+(above+1)<=100000/\r.h+(above+1)<=100000 from by have h1:max l.h r.h+1+above<=100000:=HH.out;omega)
   go_wp2_with fail
   try rw [hw1]
   try rw [show (above:Int)+1=((above+1:Nat):Int) from by omega]
   refine (ihl n.f7 (above+1) (step b n above) O1 w3 HHL.out.1 HT.out.2.2.1 HI3.out).mono ?_
   rintro e w4 ⟨rfl,O2,hI4,hk4,hg4⟩
   have HI4:=z_ hI4
   have HK4:=z_ (And.intro hk4 hg4)
   have HG24:=z_ (show Grew w2 O O2 from HK3.out.2.trans hg4 HK3.out.1.1)
   have HN4:=z_ (show NdB w4 g1 [.bool false,.slice D1 n.f1.length d1,.slice D2 n.f2.length d2,.int .i64 n.f3,.int .i64 n.f4,.slice D5 n.f5.length d5,.int .i64 n.f6,.int .i64 n.f7,.int .i64 n.f8,.slice D9 n.f9.length d9] from (hk4.2 g1 (blk_lt HN3.out) (HGO.out O1 HK3.out.2)).trans HN3.out)
   clear hI4 hk4 hg4 m0 m1 m2 m3 m4 m5 m6 m7 m8 m9
   obtain ⟨m0,m1,m2,m3,m4,m5,m6,m7,m8,m9⟩:=HN4.out.cells
   go_wp2_with fail
   try rw [hw1]
   try rw [show (above:Int)+1=((above+1:Nat):Int) from by omega]
   refine (ihr n.f8 (above+1) _ O2 w4 HHL.out.2 HT.out.2.2.2 HI4.out).mono ?_
   rintro e w5 ⟨rfl,O3,hI5,hk5,hg5⟩
   have HI5:=z_ hI5
   have HK5:=z_ (And.intro hk5 hg5)
   clear hI5 hk5 hg5 m0 m1 m2 m3 m4 m5 m6 m7 m8 m9
   go_wp2_with fail
   go_end0
   have h1:=HB.out.size
   have h2:=HK3.out.1.1
   have h3:=HK4.out.1.1
   have h4:=HK5.out.1.1
   have n1 : ∀k,k<W.heap.size->¬O k->¬O1 k:=fun k hk ho h=>(HK3.out.2 k h).elim ho (fun h=>by omega)
   have n2 : ∀k,k<W.heap.size->¬O k->¬O2 k:=fun k hk ho h=>(HG24.out k h).elim ho (fun h=>by omega)
   exact ⟨rfl,O3,HI5.out,⟨by omega,fun k hk ho=>(HK5.out.1.2 k (by omega) (n2 k hk ho)).trans ((HK4.out.1.2 k (by omega) (n1 k hk ho)).trans ((HK3.out.1.2 k (by omega) ho).trans (HB.out.block k hk)))⟩,fun k hk=>((HG24.out.trans HK5.out.2 (by omega)) k hk).imp (fun x=>x) (fun h=>by omega)⟩
theorem walkS_max : ∀(t:PT) (d a:Nat),walkS (fun (d:Nat) (_:Nd) (a:Nat)=>max d a) d t a=max d (t.h+a)
 | .leaf n,d,a=>by simp [walkS,PT.h]
 | .fork n l r,d,a=>by
   simp only [walkS,PT.h]
   rw [walkS_max l,walkS_max r]
   omega
def DeepI (w:World) (g:Nat) (d:Nat) (O:Nat->Prop) (W:World):Prop:=Below w.heap.size w W/\W.heap[g]? = some (.cells #[.int .i64 (d:Int)] 3 (0,0))/\O=(fun k=>k=g)
attribute [local go_sem] max2_int min2_int max_two min_two
set_option maxHeartbeats 4000000 in
set_option maxRecDepth 100000 in
theorem deep_see {w:World} {base p:Nat} {size room:Int} {vc vf:Value} {X:Nat->Prop} {cs:Cs} (h:ArenaM w base p size room vc vf X cs) (g:Nat) (hg:w.heap.size<=g):SeeP 70 g base p size room vc vf X cs (DeepI w g) (fun (d:Nat) (_:Nd) (a:Nat)=>max d a):=by
 refine ⟨fun b O W hI=>h.below hI.1,fun b O W k hI ho=>?_,fun b O W k hI hx ho=>?_,fun b O W W' hI hb=>⟨below_step hI.1 hb,blk_below hI.2.1 hb,hI.2.2⟩,?_⟩
 ·rw [hI.2.2] at ho
  obtain rfl:k=g:=ho
  exact blk_lt hI.2.1
 ·rw [hI.2.2] at ho
  obtain rfl:k=g:=ho
  have:=(h.sep k hx).1
  omega
 ·rintro d O W n D1 D2 D5 D9 d1 d2 d5 d9 above ha ⟨hB,hc,rfl⟩ x1 x2
  have HB:=z_ hB
  have HC:=z_ hc
  have HX:=z_ (And.intro h (And.intro hg x1))
  clear h hg x1 x2 hB hc
  have hne:g≠W.heap.size:=by have:=blk_lt HC.out;omega
  have hne2:W.heap.size≠g:=hne.symm
  obtain ⟨w1,hw1⟩ : ∃w1,w1=W.alloc (.cells #[.bool n.f0,.slice D1 n.f1.length d1,.slice D2 n.f2.length d2,.int .i64 n.f3,.int .i64 n.f4,.slice D5 n.f5.length d5,.int .i64 n.f6,.int .i64 n.f7,.int .i64 n.f8,.slice D9 n.f9.length d9] 59):=⟨_,rfl⟩
  have HB1:=z_ (show Below W.heap.size W w1 from by rw [hw1];exact below_alloc (Below.refl _ _) _)
  have hc1:(W.alloc (.cells #[.bool n.f0,.slice D1 n.f1.length d1,.slice D2 n.f2.length d2,.int .i64 n.f3,.int .i64 n.f4,.slice D5 n.f5.length d5,.int .i64 n.f6,.int .i64 n.f7,.int .i64 n.f8,.slice D9 n.f9.length d9] 59)).heap[g]? = some (.cells #[.int .i64 (d:Int)] 3 (0,0)):=by rw [<-hw1];exact blk_below HC.out HB1.out
  have HC1:=z_ (show w1.heap[g]? = some (.cells #[.int .i64 (d:Int)] 3 (0,0)) from blk_below HC.out HB1.out)
  have k0:(W.alloc (.cells #[.bool n.f0,.slice D1 n.f1.length d1,.slice D2 n.f2.length d2,.int .i64 n.f3,.int .i64 n.f4,.slice D5 n.f5.length d5,.int .i64 n.f6,.int .i64 n.f7,.int .i64 n.f8,.slice D9 n.f9.length d9] 59)).cell? ⟨g,0,none⟩=some (.int .i64 (d:Int)):=blk_cell hc1 0
  have f0:=blk_frozen hc1 0
  clear hc1
  rcases Nat.lt_or_ge d above with hlt|hge
  ·have c1:(d:Int)<(above:Int):=by omega
   have hmx:max d above=above:=by omega
   rw [hmx]
   clear hmx
   go_enter Tryz.func70,Tryz.ntmps70
   go_wp2_with fail
   rw [<-hw1]
   clear hw1 k0 f0
   go_end0
   refine ⟨rfl,fun k=>k=g,⟨?_,?_,rfl⟩,?_,Grew.refl _ _⟩
   ·exact Below.setCell (below_step HB.out HB1.out) (by exact HX.out.2.1) _
   ·exact blk_set HC1.out 0 _
   ·exact ⟨by rw [World.size_setCell];exact HB1.out.size,fun k hk ho=>(Below.heap_setCell _ ⟨g,0,none⟩ _ k ho).trans (HB1.out.block k hk)⟩
  ·have c1 : ¬(d:Int)<(above:Int):=by omega
   have hmx:max d above=d:=by omega
   rw [hmx]
   clear hmx
   go_enter Tryz.func70,Tryz.ntmps70
   go_wp2_with fail
   rw [<-hw1]
   clear hw1 k0 f0
   go_end0
   refine ⟨rfl,fun k=>k=g,⟨?_,?_,rfl⟩,?_,Grew.refl _ _⟩
   ·exact Below.setCell (below_step HB.out HB1.out) (by exact HX.out.2.1) _
   ·exact blk_set HC1.out 0 _
   ·exact ⟨by rw [World.size_setCell];exact HB1.out.size,fun k hk ho=>(Below.heap_setCell _ ⟨g,0,none⟩ _ k ho).trans (HB1.out.block k hk)⟩
end Go.Proofs.YtdeneoknjeegbaaGreatDoor.P
end
