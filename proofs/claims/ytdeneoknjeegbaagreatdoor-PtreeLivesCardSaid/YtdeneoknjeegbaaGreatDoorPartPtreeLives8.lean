/- Lemmas of this claim, part 8. -/
import Derived.Test.YtdeneoknjeegbaaGreatDoorPartPtreeLives7
import Derived.Test.YtdeneoknjeegbaaGreatDoorPartPtreeLives6
set_option linter.unusedVariables false
set_option linter.unusedSimpArgs false
section
namespace Go.Proofs.YtdeneoknjeegbaaGreatDoor.P
open Go.RowKit YtdeneoknjeegbaaGreatDoor.Pure YtdeneoknjeegbaaGreatDoorW.PrintWords YtdeneoknjeegbaaGreatDoorW.PrintLast YtdeneoknjeegbaaGreatDoorW.PrintMore
def rleaf_T3:Bool×List (List Nat×List Nat):=(true,[([],[]),([],[]),([],[]),([1,2],[1,2]),([],[]),([],[]),([4,5,3],[4,5]),([],[]),([],[]),([],[]),([9],[9]),([10],[10]),([11],[11]),([],[]),([],[]),([],[]),([12,13,14,15,6],[12,13,14,15]),([3,6,7,8,16],[3,6,7,8,16]),([0,17,16],[0,17]),([18],[18]),([18],[18]),([19,18,0,1,2,3,4,5,6,7,8,9,10,11,12,13,14,15,16,17,18,19,20],[19]),([20,21,0,1,2,3,4,5,6,7,8,9,10,11,12,13,14,15,16,17,18,19,20,21],[20])])
def rleaf_B3:List Nat:=[0,0,0,6,0,0,62,0,0,0,512,1536,3584,0,0,0,65150,131070,262143,524287,524287,2097151,4194303]
theorem rleaf_tab3:rtab .any (opsOf Tryz.f32 3)=rleaf_T3:=by kernel_rfl
theorem rleaf_bits3:waitsOk rleaf_T3.2 rleaf_B3=true:=by kernel_rfl
theorem num8_len (x:Int):(num8 x).length=8:=rfl
theorem hashB_len (size tag:Int) (parts:List (List Int)) (hs:1<=size/\size<=32) (h:parts.any isLong=false):(hashB size tag parts).length=size.toNat:=by
 unfold hashB
 rw [h,if_neg (by simp),List.length_take,shaSum_length]
 unfold mn mx
 split<;>split<;>omega
theorem lit0_new (cur:World) (base:Nat) (hb:base<=cur.heap.size) : ∃g new,(cur.heap.size=g/\cur.alloc (.cells #[] 5)=new)/\(cur.heap.size=g/\g<new.heap.size/\Below cur.heap.size cur new)/\Kd.R (Kd.int .u8) 5 new base (fun _=>True) (.slice (some ⟨g,0,none⟩) 0 0) []:=by
 refine ⟨_,_,⟨rfl,rfl⟩,⟨rfl,by simp,below_alloc (Below.refl _ _) _⟩,fun _ _=>trivial,[],?_,Kd.reps_scalar ([]:List Int)⟩
 have h2:=World.ownsRow_lit (base:=base) (e:=5) (size:=1) cur #[] 0 hb (by decide) (by rfl)
 exact h2
theorem app8_step {ops:Array Oper} {o:Oper} {a:Act} {Q:Exit->Act->World->Prop} {Kc:Act->World->Prop} {W:World} (base:Nat) (hw:Region.wanted o (yielded ops a.tmps)=true) (s x:Operand) {N:Tmp} (hd:o.dst=some N) (ho:o.op = .call { callee:=.builtin .append,args:=#[s,x],argTypes:=#[23,23] })
 (v:Value) (A:Option Addr) (m c:Nat) (ok:Nat->Prop) (hs:a.eval s=v) (hx:a.eval x = .slice A m c) (ys:List Int) (HO:Kd.R (Kd.int .u8) 5 W base ok v []) (HR:Kd.C (Kd.int .u8) W A m ys) (hfresh : ∀k,W.heap.size<=k->ok k) (hbase:base<=W.heap.size) (hl:m<=140737488355328)
 (h : ∀B d w1,Kd.R (Kd.int .u8) 5 w1 base ok (.slice B ys.length d) ys->Below base W w1->W.grownBy w1 v.ownBlock->Kc (a.put (some N) (.slice B ys.length d)) w1):
 if Region.wanted o (yielded ops a.tmps)=true then Oper.wp Tryz.prog o a W Kc Q else Kc (a.put (some N) undef) W:=by
 have:=Kd.R_append_rows_step (P:=Tryz.prog) (Q:=Q) (Kc:=Kc) (Kd.int .u8) (w0:=W) base hw s x 23 5 (.int .u8 0) 1 ho Tryz.underlying23 (by kernel_rfl) rfl (by decide) (by omega) v [] ys A m c ok (fun _=>False) hs hx HO HR (fun _ _ h=>h) (fun _ h=>h.elim) hfresh (Below.refl _ _) hbase (by simp only [List.length_nil];omega) (fun v1 w1 hR hB hg hat=>by
  obtain ⟨B,d,rfl⟩:=Kd.R_slice hR
  rw [hd]
  exact h B d w1 hR hB hg)
 rwa [hd] at this
structure RPost (c:Prop) (w w':World) (base q:Nat) (size most:Int) (vl:Value) (X:Nat->Prop) (cs:Cs) (n:Nd) (e:Ending):Prop where
 bad:c->e = .returned (.tuple #[.int .i64 0,.int .i64 1])/\RefP w w' base q size most vl X cs
 full : ¬c->(usedN cs:Int)=most->e = .returned (.tuple #[.int .i64 0,.int .i64 4])/\RefP w w' base q size most vl X cs
 ok : ¬c->(usedN cs:Int)≠most->e = .returned (.tuple #[.int .i64 (lowN cs:Int),.int .i64 0])/\RefP w w' base q size most vl X (putC cs n)
set_option maxHeartbeats 8000000 in
set_option maxRecDepth 100000 in
theorem rleaf_calls {w:World} {base q:Nat} {size most:Int} {vl:Value} {X:Nat->Prop} {cs:Cs} (h:RefM w base q size most vl X cs) (A1 A2:Option Addr) (c1 c2:Nat) (l1 l2:List Int) (since:Int)
 (b1:BX w X (.slice A1 l1.length c1) l1) (b2:BX w X (.slice A2 l2.length c2) l2) (o1:BytesOk l1) (o2:BytesOk l2):
 Calls Tryz.prog 32 #[.pointer (some ⟨q,0,none⟩),.slice A1 l1.length c1,.slice A2 l2.length c2,.int .i64 since] w
  fun e w'=>RPost (since<0\/65535<l1.length\/65535<l2.length) w w' base q size most vl X cs (leafNd size l1 l2 since) e:=by
 have HM:=z_ h
 have HBW:=z_ h.base_le
 have H1:=z_ b1
 have H2:=z_ b2
 have HO1:=z_ o1
 have HO2:=z_ o2
 have H1C:=z_ (show ∀W,Below w.heap.size w W->Kd.C (Kd.int .u8) W A1 l1.length l1 from fun W hb=>(Kd.V_reads' (Kd.V_below b1 hb)).2.2)
 have H2C:=z_ (show ∀W,Below w.heap.size w W->Kd.C (Kd.int .u8) W A2 l2.length l2 from fun W hb=>(Kd.V_reads' (Kd.V_below b2 hb)).2.2)
 have HQ : ∃vl,QBlk w q size most vl:=by
  obtain ⟨rows,hv⟩:=h.mem
  exact ⟨_,hv.blk⟩
 obtain ⟨vl0,hq⟩:=HQ
 have HSOK:=z_ (show ∀W,Below w.heap.size w W->W.cell? ⟨q,0,none⟩=some (.int .i64 size) from fun W hb=>(hq.below hb).cells.1)
 clear h b1 b2 o1 o2 hq vl0
 by_cases h0:since<0
 ·have hd1:=decide_eq_true h0
  have HC:=z_ (show since<0\/65535<l1.length\/65535<l2.length from .inl h0)
  go_enter Tryz.func32,Tryz.ntmps32
  go_wp2_with fail
  go_ret2
  exact ⟨fun _=>⟨rfl,RefP.of_below HM.out (Below.refl _ _)⟩,fun h=>absurd HC.out h,fun h=>absurd HC.out h⟩
 have hd1:=decide_eq_false h0
 by_cases h1:(l1.length:Int)>65535
 ·have hd2:=decide_eq_true h1
  have hd3:decide (65535<l1.length)=true:=decide_eq_true (by omega)
  have HC:=z_ (show since<0\/65535<l1.length\/65535<l2.length from .inr (.inl (by omega)))
  go_enter Tryz.func32,Tryz.ntmps32
  go_wp2_with fail
  go_ret2
  exact ⟨fun _=>⟨rfl,RefP.of_below HM.out (Below.refl _ _)⟩,fun h=>absurd HC.out h,fun h=>absurd HC.out h⟩
 have hd2:=decide_eq_false h1
 have hd3:decide (65535<l1.length)=false:=decide_eq_false (by omega)
 by_cases h2:(l2.length:Int)>65535
 ·have hd4:=decide_eq_true h2
  have hd5:decide (65535<l2.length)=true:=decide_eq_true (by omega)
  have HC:=z_ (show since<0\/65535<l1.length\/65535<l2.length from .inr (.inr (by omega)))
  go_enter Tryz.func32,Tryz.ntmps32
  go_wp2_with fail
  go_ret2
  exact ⟨fun _=>⟨rfl,RefP.of_below HM.out (Below.refl _ _)⟩,fun h=>absurd HC.out h,fun h=>absurd HC.out h⟩
 have hd4:=decide_eq_false h2
 have hd5:decide (65535<l2.length)=false:=decide_eq_false (by omega)
 have HC:=z_ (show ¬(since<0\/65535<l1.length\/65535<l2.length) from by omega)
 have HLEN:=z_ (show l1.length<=65535/\l2.length<=65535 from by omega)
 go_enter Tryz.func32,Tryz.ntmps32
 go_wp2_with fail
 clear hd1 hd2 hd3 hd4 hd5 h0 h1 h2
 refine start_ (n:=23) (S:=fun w'=>w'.cell? ⟨q,0,none⟩=some (.int .i64 size)) (ds:=[]) (bt_ 23 0) (by kernel_rfl) rfl rfl (HSOK.out _ (below_drew (Below.refl _ _))) (fun hHeld=>?_);refine with_tabW rleaf_tab3 rleaf_bits3 (fun HT_ HW_=>?_)
 have HB0:=z_ (show Below w.heap.size w w.drew from below_drew (Below.refl _ _))
 generalize hgw:w.drew=w1 at HB0 hHeld ⊢
 clear hgw
 refine pure_ (i:=0) (N:=some 22) (v:=?_) (a':=?_) (bt_ 23 1) rfl rfl (any_of HT_.out (by kernel_rfl)) (fun _ _ _ h=>h) (Or.inl ⟨by rfl,?_⟩) ?_ ?_
 rotate_left
 ·intro w'
  go_simp
  with_reducible rfl
 rotate_left
 ·simp only [pq_]
  rfl
 refine pure_ (i:=2) (N:=some 24) (v:=?_) (a':=?_) (bt_ 23 5) rfl rfl (any_of HT_.out (by kernel_rfl)) (fun _ _ _ h=>h) (Or.inl ⟨by rfl,?_⟩) ?_ ?_
 rotate_left
 ·intro w'
  go_simp
  with_reducible rfl
 rotate_left
 ·simp only [pq_]
  rfl
 refine pure_ (i:=5) (N:=some 27) (v:=?_) (a':=?_) (bt_ 23 37) rfl rfl (any_of HT_.out (by kernel_rfl)) (fun _ _ _ h=>h) (Or.inl ⟨by rfl,?_⟩) ?_ ?_
 rotate_left
 ·intro w'
  go_simp
  with_reducible rfl
 rotate_left
 ·simp only [pq_]
  rfl
 refine pure_ (i:=7) (N:=some 29) (v:=?_) (a':=?_) (bt_ 23 165) rfl rfl (any_of HT_.out (by kernel_rfl)) (fun _ _ _ h=>h) (Or.inl ⟨by rfl,?_⟩) ?_ ?_
 rotate_left
 ·intro w'
  go_simp
  with_reducible rfl
 rotate_left
 ·simp only [pq_]
  rfl
 refine pure_ (i:=8) (N:=some 30) (v:=?_) (a':=?_) (bt_ 23 421) rfl rfl (any_of HT_.out (by kernel_rfl)) (fun _ _ _ h=>h) (Or.inl ⟨by rfl,?_⟩) ?_ ?_
 rotate_left
 ·intro w'
  go_simp
  with_reducible rfl
 rotate_left
 ·simp only [pq_]
  rfl
 refine pure_ (i:=9) (N:=some 31) (v:=?_) (a':=?_) (bt_ 23 933) rfl rfl (any_of HT_.out (by kernel_rfl)) (fun _ _ _ h=>h) (Or.inl ⟨by rfl,?_⟩) ?_ ?_
 rotate_left
 ·intro w'
  go_simp
  with_reducible rfl
 rotate_left
 ·simp only [pq_]
  rfl
 refine pure_ (i:=10) (N:=some 32) (v:=?_) (a':=?_) (bt_ 23 1957) rfl rfl (any_of HT_.out (by kernel_rfl)) (fun _ _ _ h=>h) (Or.inl ⟨by rfl,?_⟩) ?_ ?_
 rotate_left
 ·intro w'
  go_simp
  with_reducible rfl
 rotate_left
 ·simp only [pq_]
  rfl
 refine pure_ (i:=11) (N:=some 33) (v:=?_) (a':=?_) (bt_ 23 4005) rfl rfl (any_of HT_.out (by kernel_rfl)) (fun _ _ _ h=>h) (Or.inl ⟨by rfl,?_⟩) ?_ ?_
 rotate_left
 ·intro w'
  go_simp
  with_reducible rfl
 rotate_left
 ·simp only [pq_]
  rfl
 refine take_ (i:=12) (N:=some 34) (v:=?_) (a':=?_) (bt_ 23 8101) rfl rfl (take_ofW HT_.out HW_.out (by kernel_rfl)) (fun _ _ _ h=>h) (Or.inl ⟨by rfl,?_⟩) hHeld ?_ ?_
 rotate_left
 ·rintro w' s0
  go_simp
  with_reducible rfl
 rotate_left
 ·simp only [pq_]
  rfl
 refine pure_ (i:=13) (N:=some 35) (v:=?_) (a':=?_) (bt_ 23 16293) rfl rfl (any_of HT_.out (by kernel_rfl)) (fun _ _ _ h=>h) (Or.inl ⟨by rfl,?_⟩) ?_ ?_
 rotate_left
 ·intro w'
  go_simp
  with_reducible rfl
 rotate_left
 ·simp only [pq_]
  rfl
 refine pure_ (i:=14) (N:=some 36) (v:=?_) (a':=?_) (bt_ 23 32677) rfl rfl (any_of HT_.out (by kernel_rfl)) (fun _ _ _ h=>h) (Or.inl ⟨by rfl,?_⟩) ?_ ?_
 rotate_left
 ·intro w'
  go_simp
  with_reducible rfl
 rotate_left
 ·simp only [pq_]
  rfl
 refine pure_ (i:=15) (N:=some 37) (v:=?_) (a':=?_) (bt_ 23 65445) rfl rfl (any_of HT_.out (by kernel_rfl)) (fun _ _ _ h=>h) (Or.inl ⟨by rfl,?_⟩) ?_ ?_
 rotate_left
 ·intro w'
  go_simp
  with_reducible rfl
 rotate_left
 ·simp only [pq_]
  rfl
 refine join_ (σ:=Nat×Option Addr×Nat×Nat) 8 (bt_ 23 65471) (fun s_=>[(23,.slice (some ⟨s_.1,0,none⟩) 0 0),(25,.slice s_.2.1 l1.length s_.2.2.1),(26,.slice (some ⟨s_.2.2.2,0,none⟩) 0 0)]) (fun s_ w'=>Kd.R (Kd.int .u8) 5 w' w.heap.size (fun k=>k≠s_.2.2.2) (.slice s_.2.1 l1.length s_.2.2.1) l1/\Kd.R (Kd.int .u8) 5 w' w.heap.size (fun _=>True) (.slice (some ⟨s_.2.2.2,0,none⟩) 0 0) []/\Below w.heap.size w w') ?_ ?_
 rotate_left
 ·intro hCont
  refine two_ (i:=1) (j:=4) (Ni:=some 23) (Nj:=some 26) (bt_ 23 65447) (bt_ 23 65461) rfl rfl rfl rfl (two_of HT_.out (by kernel_rfl)) (by decide) (by decide) (fun K hK=>?_) (fun K hK=>?_)
  ·skip
   refine value_ (v:=.slice (some ⟨w1.heap.size,0,none⟩) 0 0) (w1:=w1.alloc (.cells #[] 5)) (by rfl) rfl ?_ ?_
   ·(go_simp<;>first|rfl|done)
   obtain ⟨g1,wa,hal,hsz,hr1⟩:=lit0_new w1 w.heap.size HB0.out.size
   rw [hal.1,hal.2]
   clear hal
   refine hK.out _ _ (HSOK.out _ (HB0.out.trans (hsz.2.2.mono HB0.out.size))) (fun hHeld=>?_)
   clear hK K
   refine norm_ (a':=?_) ?_ ?_
   rotate_left
   ·show Act.put _ (some 23) _=_
    simp only [pq_]
    rfl
   have HBa:=z_ (HB0.out.trans (hsz.2.2.mono HB0.out.size))
   have HSa:=z_ hsz
   have HR1:=z_ hr1
   clear hr1 hsz
   refine two_ (i:=3) (j:=4) (Ni:=some 25) (Nj:=some 26) (bt_ 23 65455) (bt_ 23 65463) rfl rfl rfl rfl (two_of HT_.out (by kernel_rfl)) (by decide) (by decide) (fun K hK=>?_) (fun K hK=>?_)
   ·skip
    refine app8_step w.heap.size (by rfl) (.tmp 23) (.tmp 24) rfl rfl (.slice (some ⟨g1,0,none⟩) 0 0) A1 l1.length c1 (fun _=>True) rfl rfl l1 HR1.out (H1C.out _ HBa.out) (fun _ _=>trivial) HBa.out.size (by have:=HLEN.out;omega) ?_
    intro B1 d1 wb hr hx hg
    refine hK.out _ _ (HSOK.out _ (HBa.out.trans hx)) (fun hHeld=>?_)
    clear hK K
    refine norm_ (a':=?_) ?_ ?_
    rotate_left
    ·show Act.put _ (some 25) _=_
     simp only [pq_]
     rfl
    have HBb:=z_ (HBa.out.trans hx)
    have HRc:=z_ hr
    clear hr hx hg
    refine one_ (i:=4) (N:=some 26) (bt_ 23 65471) rfl rfl (one_of HT_.out (by kernel_rfl)) (by decide) (fun K hK=>?_)
    refine value_ (v:=.slice (some ⟨wb.heap.size,0,none⟩) 0 0) (w1:=wb.alloc (.cells #[] 5)) (by rfl) rfl ?_ ?_
    ·(go_simp<;>first|rfl|done)
    obtain ⟨g2,wc,hal,hsz,hr2⟩:=lit0_new wb w.heap.size HBb.out.size
    rw [hal.1,hal.2]
    clear hal
    refine hK.out _ _ (HSOK.out _ (HBb.out.trans (hsz.2.2.mono HBb.out.size))) (fun hHeld=>?_)
    clear hK K
    refine norm_ (a':=?_) ?_ ?_
    rotate_left
    ·show Act.put _ (some 26) _=_
     simp only [pq_]
     rfl
    have HBq:=z_ (HBb.out.trans (hsz.2.2.mono HBb.out.size))
    have HRb:=z_ hr2
    have HRa:=z_ (Kd.R_mono (Kd.R_below (Kd.R_bound HRc.out) hsz.2.2) (ok':=fun k=>k≠g2) (fun k hk=>by have h1:=hk.2.1;have h2:=hsz.1;omega))
    clear hr2 hsz HRc
    exact norm_ (by simp only [putAll,Act.put,List.setIfInBounds_toArray,List.set_cons_zero,List.set_cons_succ]) (hCont (g1,B1,d1,g2) _ ⟨HRa.out,HRb.out,HBq.out⟩)
   ·skip
    refine value_ (v:=.slice (some ⟨wa.heap.size,0,none⟩) 0 0) (w1:=wa.alloc (.cells #[] 5)) (by rfl) rfl ?_ ?_
    ·(go_simp<;>first|rfl|done)
    obtain ⟨g2,wb,hal,hsz,hr2⟩:=lit0_new wa w.heap.size HBa.out.size
    rw [hal.1,hal.2]
    clear hal
    refine hK.out _ _ (HSOK.out _ (HBa.out.trans (hsz.2.2.mono HBa.out.size))) (fun hHeld=>?_)
    clear hK K
    refine norm_ (a':=?_) ?_ ?_
    rotate_left
    ·show Act.put _ (some 26) _=_
     simp only [pq_]
     rfl
    have HBb:=z_ (HBa.out.trans (hsz.2.2.mono HBa.out.size))
    have HRd:=z_ hr2
    have HSb:=z_ hsz
    have HR1b:=z_ (Kd.R_reok (ok:=fun k=>k≠g2) rfl (Kd.R_below HR1.out hsz.2.2) (fun k e=>by rw [own_some] at e;have e:=Option.some.inj e;have h1:=HSa.out.2.1;have h2:=hsz.1;omega))
    clear hr2 hsz
    refine one_ (i:=3) (N:=some 25) (bt_ 23 65471) rfl rfl (one_of HT_.out (by kernel_rfl)) (by decide) (fun K hK=>?_)
    refine app8_step w.heap.size (by rfl) (.tmp 23) (.tmp 24) rfl rfl (.slice (some ⟨g1,0,none⟩) 0 0) A1 l1.length c1 (fun k=>k≠g2) rfl rfl l1 HR1b.out (H1C.out _ HBb.out) (fun k hk=>by have:=HSb.out.2.1;omega) HBb.out.size (by have:=HLEN.out;omega) ?_
    intro B1 d1 wc hr hx hg
    refine hK.out _ _ (HSOK.out _ (HBb.out.trans hx)) (fun hHeld=>?_)
    clear hK K
    refine norm_ (a':=?_) ?_ ?_
    rotate_left
    ·show Act.put _ (some 25) _=_
     simp only [pq_]
     rfl
    have HBq:=z_ (HBb.out.trans hx)
    have HRa:=z_ hr
    have HRb:=z_ (Kd.R_mono (Kd.R_step (Kd.R_reok (ok:=fun k=>k=g2) rfl HRd.out (fun k e=>by rw [own_some] at e;exact (Option.some.inj e).symm)) (fun k hk hl=>hg.block k hl (fun e=>by rw [own_some] at e;have e:=Option.some.inj e;have h1:=HSa.out.2.1;have h2:=HSb.out.1;omega))) (fun _ _=>trivial))
    clear hr hx hg
    exact norm_ (by simp only [putAll,Act.put,List.setIfInBounds_toArray,List.set_cons_zero,List.set_cons_succ]) (hCont (g1,B1,d1,g2) _ ⟨HRa.out,HRb.out,HBq.out⟩)
  ·skip
   refine value_ (v:=.slice (some ⟨w1.heap.size,0,none⟩) 0 0) (w1:=w1.alloc (.cells #[] 5)) (by rfl) rfl ?_ ?_
   ·(go_simp<;>first|rfl|done)
   obtain ⟨g2,wa,hal,hsz,hr2⟩:=lit0_new w1 w.heap.size HB0.out.size
   rw [hal.1,hal.2]
   clear hal
   refine hK.out _ _ (HSOK.out _ (HB0.out.trans (hsz.2.2.mono HB0.out.size))) (fun hHeld=>?_)
   clear hK K
   refine norm_ (a':=?_) ?_ ?_
   rotate_left
   ·show Act.put _ (some 26) _=_
    simp only [pq_]
    rfl
   have HBa:=z_ (HB0.out.trans (hsz.2.2.mono HB0.out.size))
   have HSa:=z_ hsz
   have HR2:=z_ hr2
   clear hr2 hsz
   refine one_ (i:=1) (N:=some 23) (bt_ 23 65463) rfl rfl (one_of HT_.out (by kernel_rfl)) (by decide) (fun K hK=>?_)
   refine value_ (v:=.slice (some ⟨wa.heap.size,0,none⟩) 0 0) (w1:=wa.alloc (.cells #[] 5)) (by rfl) rfl ?_ ?_
   ·(go_simp<;>first|rfl|done)
   obtain ⟨g1,wb,hal,hsz,hr1⟩:=lit0_new wa w.heap.size HBa.out.size
   rw [hal.1,hal.2]
   clear hal
   refine hK.out _ _ (HSOK.out _ (HBa.out.trans (hsz.2.2.mono HBa.out.size))) (fun hHeld=>?_)
   clear hK K
   refine norm_ (a':=?_) ?_ ?_
   rotate_left
   ·show Act.put _ (some 23) _=_
    simp only [pq_]
    rfl
   have HBb:=z_ (HBa.out.trans (hsz.2.2.mono HBa.out.size))
   have HSb:=z_ hsz
   have HR1b:=z_ (Kd.R_reok (ok:=fun k=>k≠g2) rfl hr1 (fun k e=>by rw [own_some] at e;have e:=Option.some.inj e;have h1:=HSa.out.2.1;have h2:=hsz.1;omega))
   have HRd:=z_ (Kd.R_below HR2.out hsz.2.2)
   clear hr1 hsz
   refine one_ (i:=3) (N:=some 25) (bt_ 23 65471) rfl rfl (one_of HT_.out (by kernel_rfl)) (by decide) (fun K hK=>?_)
   refine app8_step w.heap.size (by rfl) (.tmp 23) (.tmp 24) rfl rfl (.slice (some ⟨g1,0,none⟩) 0 0) A1 l1.length c1 (fun k=>k≠g2) rfl rfl l1 HR1b.out (H1C.out _ HBb.out) (fun k hk=>by have:=HSa.out.2.1;have:=HSb.out.2.1;have:=HSb.out.1;omega) HBb.out.size (by have:=HLEN.out;omega) ?_
   intro B1 d1 wc hr hx hg
   refine hK.out _ _ (HSOK.out _ (HBb.out.trans hx)) (fun hHeld=>?_)
   clear hK K
   refine norm_ (a':=?_) ?_ ?_
   rotate_left
   ·show Act.put _ (some 25) _=_
    simp only [pq_]
    rfl
   have HBq:=z_ (HBb.out.trans hx)
   have HRa:=z_ hr
   have HRb:=z_ (Kd.R_mono (Kd.R_step (Kd.R_reok (ok:=fun k=>k=g2) rfl HRd.out (fun k e=>by rw [own_some] at e;exact (Option.some.inj e).symm)) (fun k hk hl=>hg.block k hl (fun e=>by rw [own_some] at e;have e:=Option.some.inj e;have h1:=HSa.out.2.1;have h2:=HSb.out.1;omega))) (fun _ _=>trivial))
   clear hr hx hg
   exact norm_ (by simp only [putAll,Act.put,List.setIfInBounds_toArray,List.set_cons_zero,List.set_cons_succ]) (hCont (g1,B1,d1,g2) _ ⟨HRa.out,HRb.out,HBq.out⟩)
 rintro ⟨g1,B1,d1,g2⟩ wq ⟨hra,hrb,hbq⟩
 have hHeld:=HSOK.out _ hbq
 have HRa:=z_ hra
 have HRb:=z_ hrb
 have HBq:=z_ hbq
 clear hra hrb hbq
 refine norm_ (a':=?_) ?_ ?_
 rotate_left
 ·simp only [putAll,Act.put,List.setIfInBounds_toArray,List.set_cons_zero,List.set_cons_succ]
  rfl
 refine one_ (i:=6) (N:=some 28) (bt_ 23 65535) rfl rfl (one_of HT_.out (by kernel_rfl)) (by decide) (fun K hK=>?_)
 refine app8_step w.heap.size (by rfl) (.tmp 26) (.tmp 27) rfl rfl (.slice (some ⟨g2,0,none⟩) 0 0) A2 l2.length c2 (fun _=>True) rfl rfl l2 HRb.out (H2C.out _ HBq.out) (fun _ _=>trivial) HBq.out.size (by have:=HLEN.out;omega) ?_
 intro B2 d2 wz hr hx hg
 refine hK.out _ _ (HSOK.out _ (HBq.out.trans hx)) (fun hHeld=>?_)
 clear hK K
 refine norm_ (a':=?_) ?_ ?_
 rotate_left
 ·show Act.put _ (some 28) _=_
  simp only [pq_]
  rfl
 have HBz:=z_ (HBq.out.trans hx)
 have HR2:=z_ hr
 have HR1:=z_ (Kd.R_mono (Kd.R_step HRa.out (fun k hk hl=>hg.block k hl (fun e=>by rw [own_some] at e;exact hk (Option.some.inj e)))) (ok':=fun _=>True) (fun _ _=>trivial))
 clear hr hx hg HRa HRb HBq
 refine one_ (i:=16) (N:=some 38) (bt_ 23 131071) rfl rfl (one_of HT_.out (by kernel_rfl)) (by decide) (fun K hK=>?_)
 refine goes_ Tryz.func65 (by kernel_rfl) rfl #[.int .i64 size,.slice A1 l1.length c1,.slice A2 l2.length c2,.int .i64 since] (by rfl) rfl rfl (by (try simp only [List.map_toArray,List.map_cons,List.map_nil]);first|done|rfl) ?_
 refine (annalsref09_LeafHash.calls 9 size (fun k=>X k/\k<w.heap.size) A1 c1 l1 (fun k=>X k/\k<w.heap.size) A2 c2 l2 since (hashB size 1 [l1,l2,num8 since]) wz (Kd.V_below (Kd.V_bound H1.out) HBz.out) (Kd.V_below (Kd.V_bound H2.out) HBz.out) (rleaf_f 9 (by decide) size l1 l2 since HO1.out HO2.out)).mono ?_
 obtain ⟨lh,hlh⟩ : ∃lh,lh=hashB size 1 [l1,l2,num8 since]:=⟨_,rfl⟩
 rw [<-hlh]
 have HLH:=z_ hlh
 clear hlh
 rintro e3 wy ⟨v,rfl,hR9,hB9⟩
 obtain ⟨B9,d9,rfl⟩:=Kd.R_slice hR9
 refine ⟨_,rfl,?_⟩
 have HR9:=z_ hR9
 have HB9:=z_ hB9
 have HBy:=z_ (HBz.out.trans (hB9.mono HBz.out.size))
 clear hR9 hB9
 refine hK.out _ _ (HSOK.out _ HBy.out) (fun hHeld=>?_)
 clear hK K
 refine norm_ (a':=?_) ?_ ?_
 rotate_left
 ·show Act.put _ (some 38) _=_
  simp only [pq_]
  rfl
 refine pure_ (i:=17) (N:=some 39) (v:=?_) (a':=?_) (bt_ 23 262143) rfl rfl (any_of HT_.out (by kernel_rfl)) (fun _ _ _ h=>h) (Or.inl ⟨by rfl,?_⟩) ?_ ?_
 rotate_left
 ·intro w'
  go_simp
  with_reducible rfl
 rotate_left
 ·simp only [pq_]
  rfl
 refine one_ (i:=18) (N:=some 40) (bt_ 23 524287) rfl rfl (one_of HT_.out (by kernel_rfl)) (by decide) (fun K hK=>?_)
 refine goes_ Tryz.func64 (by kernel_rfl) rfl #[.pointer (some ⟨q,0,none⟩),.agg #[.bool true,.slice B1 l1.length d1,.slice B2 l2.length d2,.int .i64 since,.int .i64 0,.slice none 0 0,.int .i64 since,.int .i64 0,.int .i64 0,.slice B9 lh.length d9]] (by rfl) rfl rfl (by (try simp only [List.map_toArray,List.map_cons,List.map_nil]);first|done|rfl) ?_
 obtain ⟨X4,hX4⟩ : ∃X4:Nat->Prop,X4=fun k=>X k\/(w.heap.size<=k/\k<wy.heap.size):=⟨_,rfl⟩
 have hsepX : ∀k,X k->k<w.heap.size/\¬OwnQ q vl k:=by obtain ⟨rows,hv⟩:=HM.out.mem;exact hv.sep
 have hownlt : ∀k,OwnQ q vl k->k<w.heap.size:=by obtain ⟨rows,hv⟩:=HM.out.mem;exact hv.own_lt
 have s1:=HBy.out.size
 have s2:=HB9.out.size
 have s3:=HBz.out.size
 have hMy:RefM wy base q size most vl X4 cs:=HM.out.step (by omega) (fun k hk _=>HBy.out.block k hk) (fun k hx=>by rw [hX4];exact .inl hx) (fun k hx=>by rw [hX4] at hx;rcases hx with hx|hx;(exact ⟨by have:=(hsepX k hx).1;omega,(hsepX k hx).2⟩);(exact ⟨by omega,fun ho=>by have:=hownlt k ho;omega⟩))
 have hb1:BX wy X4 (.slice B1 l1.length d1) l1:=Kd.V_mono (Kd.V_step (Kd.R_V (base':=0) (Kd.R_bound HR1.out)) (fun k hk hl=>HB9.out.block k hl)) (fun k hk=>by rw [hX4];have:=hk.2.1;have:=hk.2.2.1;exact .inr ⟨by omega,by omega⟩)
 have hb2:BX wy X4 (.slice B2 l2.length d2) l2:=Kd.V_mono (Kd.V_step (Kd.R_V (base':=0) (Kd.R_bound HR2.out)) (fun k hk hl=>HB9.out.block k hl)) (fun k hk=>by rw [hX4];have:=hk.2.1;have:=hk.2.2.1;exact .inr ⟨by omega,by omega⟩)
 have hb9:BX wy X4 (.slice B9 lh.length d9) lh:=Kd.V_mono (Kd.R_V (base':=0) (Kd.R_bound HR9.out)) (fun k hk=>by rw [hX4];have:=hk.2.1;have:=hk.2.2.1;exact .inr ⟨by omega,by omega⟩)
 have HX4:=z_ hX4
 have h9:0<(leafNd size l1 l2 since).f9.length:=by show 0<(hashB size 1 [l1,l2,num8 since]).length;rw [hashB_len size 1 _ HM.out.hs (by have:=HLEN.out;simp [isLong,num8_len];omega)];have:=HM.out.hs;omega
 rw [HLH.out] at hb9 ⊢
 refine (rput_calls hMy (leafNd size l1 l2 since) h9 B1 B2 none B9 d1 d2 0 d9 hb1 hb2 (Kd.V_nil _ _ _ _ _) hb9).mono ?_
 rintro e wx hp
 obtain ⟨ee,i0,i1,rfl,hp0,hp1⟩ : ∃(r:Int×Int) (i0 i1:Int),e = .returned (.tuple #[.int .i64 i0,.int .i64 i1])/\r=(i0,i1)/\True:=by by_cases hf:(usedN cs:Int)=most;(exact ⟨_,_,_,(hp.full hf).1,rfl,trivial⟩);(exact ⟨_,_,_,(hp.more hf).1,rfl,trivial⟩)
 refine ⟨_,rfl,?_⟩
 have HP:=z_ hp
 clear hp hp0 hp1
 have HQx:=z_ (show ∃vl',QBlk wx q size most vl' from by by_cases hf:(usedN cs:Int)=most;(obtain ⟨_,vl',_,hm,_⟩:=HP.out.full hf;obtain ⟨_,hv⟩:=hm.mem;exact ⟨_,hv.blk⟩);(obtain ⟨_,vl',_,hm,_⟩:=HP.out.more hf;obtain ⟨_,hv⟩:=hm.mem;exact ⟨_,hv.blk⟩))
 refine hK.out _ _ (HQx.out.choose_spec.cells.1) (fun hHeld=>?_)
 clear hK K
 refine norm_ (a':=?_) ?_ ?_
 rotate_left
 ·show Act.put _ (some 40) _=_
  simp only [pq_]
  rfl
 refine pure_ (i:=19) (N:=some 41) (v:=?_) (a':=?_) (bt_ 23 1048575) rfl rfl (any_of HT_.out (by kernel_rfl)) (fun _ _ _ h=>h) (Or.inl ⟨by rfl,?_⟩) ?_ ?_
 rotate_left
 ·intro w'
  go_simp
  with_reducible rfl
 rotate_left
 ·simp only [pq_]
  rfl
 refine pure_ (i:=20) (N:=some 42) (v:=?_) (a':=?_) (bt_ 23 2097151) rfl rfl (any_of HT_.out (by kernel_rfl)) (fun _ _ _ h=>h) (Or.inl ⟨by rfl,?_⟩) ?_ ?_
 rotate_left
 ·intro w'
  go_simp
  with_reducible rfl
 rotate_left
 ·simp only [pq_]
  rfl
 refine pure_ (i:=21) (N:=some 8) (v:=?_) (a':=?_) (bt_ 23 4194303) rfl rfl (any_of HT_.out (by kernel_rfl)) (fun _ _ _ h=>h) (Or.inl ⟨by rfl,?_⟩) ?_ ?_
 rotate_left
 ·intro w'
  go_simp
  with_reducible rfl
 rotate_left
 ·simp only [pq_]
  rfl
 refine pure_ (i:=22) (N:=some 9) (v:=?_) (a':=?_) (bt_ 23 8388607) rfl rfl (any_of HT_.out (by kernel_rfl)) (fun _ _ _ h=>h) (Or.inl ⟨by rfl,?_⟩) ?_ ?_
 rotate_left
 ·intro w'
  go_simp
  with_reducible rfl
 rotate_left
 ·simp only [pq_]
  rfl
 refine done_ (done_of HT_.out (by kernel_rfl)) ?_
 go_wp2_with fail
 go_ret2
 have hgr:Grew w X X4:=fun k hk=>by
  rw [HX4.out] at hk
  exact hk.imp id (fun h=>h.1)
 exact ⟨fun hc=>absurd hc HC.out,fun _ hf=>⟨(HP.out.full hf).1,RefP.start (HP.out.full hf).2 hgr HBy.out HBW.out.1⟩,fun _ hf=>⟨(HP.out.more hf).1,RefP.start (HP.out.more hf).2 hgr HBy.out HBW.out.1⟩⟩
def rcopy_T1:Bool×List (List Nat×List Nat):=(true,[([],[]),([],[]),([1],[1]),([0,2],[0,2]),([],[]),([],[]),([5],[5]),([4,6,3],[4,6]),([0,1,2,3,5,6],[]),([8,3,7,0,1,2,3,5,6],[3,8]),([0,1,2,3,4,5,6,7,8,9],[]),([10,7,9,0,1,2,3,4,5,6,7,8,9],[7,10])])
def rcopy_B1:List Nat:=[0,0,2,7,0,0,32,127,111,511,1023,2047]
theorem rcopy_tab1:rtab .any (opsOf Tryz.f54 1)=rcopy_T1:=by kernel_rfl
theorem rcopy_tab2:rtab .any (opsOf Tryz.f54 2)=rcopy_T1:=by kernel_rfl
theorem rcopy_bits1:waitsOk rcopy_T1.2 rcopy_B1=true:=by kernel_rfl
theorem rcopy_bits2:waitsOk rcopy_T1.2 rcopy_B1=true:=by kernel_rfl
set_option maxRecDepth 100000 in
theorem results_copy (W:World) (g:Nat) {y0 y1 y2 y3 y4 y5 y6 y7 y8 y9:Value} (h:NdB W g [y0,y1,y2,y3,y4,y5,y6,y7,y8,y9]) (tm:Array Value) (h2:tm[2]?.getD undef = .pointer (some ⟨g,0,none⟩)):(results Tryz.f54 tm).run Tryz.prog W = .ok (.agg #[y0,y1,y2,y3,y4,y5,y6,y7,y8,y9]) W:=by
 obtain ⟨c0,c1,c2,c3,c4,c5,c6,c7,c8,c9⟩:=h.cells
 simp [results,Tryz.results54,go_sem,h2,c0,c1,c2,c3,c4,c5,c6,c7,c8,c9]
set_option maxHeartbeats 8000000 in
set_option maxRecDepth 100000 in
theorem rcopy_calls {w:World} {X:Nat->Prop} (n:Nd) (hl:NdLen n) (A1 A2 A5 A9:Option Addr) (c1 c2 c5 c9:Nat)
 (b1:BX w X (.slice A1 n.f1.length c1) n.f1) (b2:BX w X (.slice A2 n.f2.length c2) n.f2) (b5:BX w X (.slice A5 n.f5.length c5) n.f5) (b9:BX w X (.slice A9 n.f9.length c9) n.f9):
 Calls Tryz.prog 54 #[.agg ([.bool n.f0,.slice A1 n.f1.length c1,.slice A2 n.f2.length c2,.int .i64 n.f3,.int .i64 n.f4,.slice A5 n.f5.length c5,.int .i64 n.f6,.int .i64 n.f7,.int .i64 n.f8,.slice A9 n.f9.length c9]:List Value).toArray] w fun e w'=>Below w.heap.size w w'/\∃(E1 E2 E5 E9:Option Addr) (e1 e2 e5 e9:Nat),
  e = .returned (.agg #[.bool n.f0,.slice E1 n.f1.length e1,.slice E2 n.f2.length e2,.int .i64 n.f3,.int .i64 n.f4,.slice E5 n.f5.length e5,.int .i64 n.f6,.int .i64 n.f7,.int .i64 n.f8,.slice E9 n.f9.length e9])/\
  BX w' (fun k=>w.heap.size<=k) (.slice E1 n.f1.length e1) n.f1/\BX w' (fun k=>w.heap.size<=k) (.slice E2 n.f2.length e2) n.f2/\BX w' (fun k=>w.heap.size<=k) (.slice E5 n.f5.length e5) n.f5/\BX w' (fun k=>w.heap.size<=k) (.slice E9 n.f9.length e9) n.f9:=by
 have HLEN:=z_ (show n.f1.length<=65535/\n.f2.length<=65535/\n.f5.length<=65535/\n.f9.length<=65535 from hl)
 have HX1:=z_ b1
 have HX2:=z_ b2
 have HX5:=z_ b5
 have HX9:=z_ b9
 clear hl b1 b2 b5 b9
 go_enter Tryz.func54,Tryz.ntmps54
 go_wp2_with fail
 obtain ⟨W1,hW1⟩ : ∃W1,W1=(w.alloc (.cells ([.bool n.f0,.slice A1 n.f1.length c1,.slice A2 n.f2.length c2,.int .i64 n.f3,.int .i64 n.f4,.slice A5 n.f5.length c5,.int .i64 n.f6,.int .i64 n.f7,.int .i64 n.f8,.slice A9 n.f9.length c9]:List Value).toArray 59)).alloc (.cells zeroR.toArray 59):=⟨_,rfl⟩
 change Code.wp _ _ _ _ ((w.alloc (.cells ([.bool n.f0,.slice A1 n.f1.length c1,.slice A2 n.f2.length c2,.int .i64 n.f3,.int .i64 n.f4,.slice A5 n.f5.length c5,.int .i64 n.f6,.int .i64 n.f7,.int .i64 n.f8,.slice A9 n.f9.length c9]:List Value).toArray 59)).alloc (.cells zeroR.toArray 59))
 rw [<-hW1]
 have ha:=below_alloc (Below.refl w.heap.size w) (.cells ([.bool n.f0,.slice A1 n.f1.length c1,.slice A2 n.f2.length c2,.int .i64 n.f3,.int .i64 n.f4,.slice A5 n.f5.length c5,.int .i64 n.f6,.int .i64 n.f7,.int .i64 n.f8,.slice A9 n.f9.length c9]:List Value).toArray 59)
 have hN:NdB (w.alloc (.cells ([.bool n.f0,.slice A1 n.f1.length c1,.slice A2 n.f2.length c2,.int .i64 n.f3,.int .i64 n.f4,.slice A5 n.f5.length c5,.int .i64 n.f6,.int .i64 n.f7,.int .i64 n.f8,.slice A9 n.f9.length c9]:List Value).toArray 59)) w.heap.size [.bool n.f0,.slice A1 n.f1.length c1,.slice A2 n.f2.length c2,.int .i64 n.f3,.int .i64 n.f4,.slice A5 n.f5.length c5,.int .i64 n.f6,.int .i64 n.f7,.int .i64 n.f8,.slice A9 n.f9.length c9]:=heap_alloc_new w _
 have hs1:(w.alloc (.cells ([.bool n.f0,.slice A1 n.f1.length c1,.slice A2 n.f2.length c2,.int .i64 n.f3,.int .i64 n.f4,.slice A5 n.f5.length c5,.int .i64 n.f6,.int .i64 n.f7,.int .i64 n.f8,.slice A9 n.f9.length c9]:List Value).toArray 59)).heap.size=w.heap.size+1:=by simp
 have hb:=below_alloc (Below.refl (w.alloc (.cells ([.bool n.f0,.slice A1 n.f1.length c1,.slice A2 n.f2.length c2,.int .i64 n.f3,.int .i64 n.f4,.slice A5 n.f5.length c5,.int .i64 n.f6,.int .i64 n.f7,.int .i64 n.f8,.slice A9 n.f9.length c9]:List Value).toArray 59)).heap.size _) (.cells zeroR.toArray 59)
 have hZ:=heap_alloc_new (w.alloc (.cells ([.bool n.f0,.slice A1 n.f1.length c1,.slice A2 n.f2.length c2,.int .i64 n.f3,.int .i64 n.f4,.slice A5 n.f5.length c5,.int .i64 n.f6,.int .i64 n.f7,.int .i64 n.f8,.slice A9 n.f9.length c9]:List Value).toArray 59)) (.cells zeroR.toArray 59)
 rw [<-hW1] at hb hZ
 rw [hs1] at hb hZ
 obtain ⟨b,hbe⟩ : ∃b,b=w.heap.size:=⟨_,rfl⟩
 obtain ⟨z,hze⟩ : ∃z,z=w.heap.size+1:=⟨_,rfl⟩
 have HBE:=z_ (And.intro hbe hze)
 have HN1:=z_ (show NdB W1 b [.bool n.f0,.slice A1 n.f1.length c1,.slice A2 n.f2.length c2,.int .i64 n.f3,.int .i64 n.f4,.slice A5 n.f5.length c5,.int .i64 n.f6,.int .i64 n.f7,.int .i64 n.f8,.slice A9 n.f9.length c9] from by rw [hbe];exact NdB.below hN (by rw [hs1];exact hb))
 have HZ1:=z_ (show NdB W1 z zeroR from by rw [hze];exact hZ)
 have HB1:=z_ (show Below w.heap.size w W1 from ha.trans (hb.mono (by omega)))
 rw [<-hze,<-hbe]
 have HGE:=z_ (show w.heap.size<=b from by omega)
 have HLE1:=z_ (show w.heap.size<=W1.heap.size from HB1.out.size)
 have H1C:=z_ (show ∀W,Below W1.heap.size W1 W->Kd.C (Kd.int .u8) W A1 n.f1.length n.f1 from fun W hb=>(Kd.V_reads' (Kd.V_below (Kd.V_below HX1.out HB1.out) hb)).2.2)
 have H2C:=z_ (show ∀W,Below W1.heap.size W1 W->Kd.C (Kd.int .u8) W A2 n.f2.length n.f2 from fun W hb=>(Kd.V_reads' (Kd.V_below (Kd.V_below HX2.out HB1.out) hb)).2.2)
 clear hbe hze hZ hN hb ha hs1 hW1
 have HSOK:=z_ (show ∀W,Below W1.heap.size W1 W->W.cell? ⟨b,1,none⟩=some (.slice A1 n.f1.length c1)/\W.cell? ⟨b,2,none⟩=some (.slice A2 n.f2.length c2) from fun W hb=>⟨blk_cell (NdB.below HN1.out hb) 1,blk_cell (NdB.below HN1.out hb) 2⟩)
 refine start_ (n:=12) (S:=fun w'=>w'.cell? ⟨b,1,none⟩=some (.slice A1 n.f1.length c1)/\w'.cell? ⟨b,2,none⟩=some (.slice A2 n.f2.length c2)) (ds:=[9,11]) (bt_ 12 0) (by kernel_rfl) rfl rfl (HSOK.out _ (below_drew (Below.refl _ _))) (fun hHeld=>?_);refine with_tabW rcopy_tab1 rcopy_bits1 (fun HT_ HW_=>?_)
 have HB0:=z_ (show Below W1.heap.size W1 W1.drew from below_drew (Below.refl _ _))
 generalize hgw:W1.drew=w1 at HB0 hHeld ⊢
 clear hgw
 refine pure_ (i:=1) (N:=some 4) (v:=?_) (a':=?_) (bt_ 12 2) rfl rfl (any_of HT_.out (by kernel_rfl)) (fun _ _ _ h=>h) (Or.inl ⟨by rfl,?_⟩) ?_ ?_
 rotate_left
 ·intro w'
  go_simp
  with_reducible rfl
 rotate_left
 ·simp only [pq_]
  rfl
 refine take_ (i:=2) (N:=some 5) (v:=?_) (a':=?_) (bt_ 12 6) rfl rfl (take_ofW HT_.out HW_.out (by kernel_rfl)) (fun _ _ _ h=>h) (Or.inl ⟨by rfl,?_⟩) hHeld ?_ ?_
 rotate_left
 ·rintro w' ⟨s0,s1⟩
  go_simp
  with_reducible rfl
 rotate_left
 ·simp only [pq_]
  rfl
 refine pure_ (i:=5) (N:=some 8) (v:=?_) (a':=?_) (bt_ 12 38) rfl rfl (any_of HT_.out (by kernel_rfl)) (fun _ _ _ h=>h) (Or.inl ⟨by rfl,?_⟩) ?_ ?_
 rotate_left
 ·intro w'
  go_simp
  with_reducible rfl
 rotate_left
 ·simp only [pq_]
  rfl
 refine take_ (i:=6) (N:=some 9) (v:=?_) (a':=?_) (bt_ 12 102) rfl rfl (take_ofW HT_.out HW_.out (by kernel_rfl)) (fun _ _ _ h=>h) (Or.inl ⟨by rfl,?_⟩) hHeld ?_ ?_
 rotate_left
 ·rintro w' ⟨s0,s1⟩
  go_simp
  with_reducible rfl
 rotate_left
 ·simp only [pq_]
  rfl
 refine join_ (σ:=Nat×Option Addr×Nat×Nat) 4 (bt_ 12 383) (fun s_=>[(3,.slice (some ⟨s_.1,0,none⟩) 0 0),(6,.slice s_.2.1 n.f1.length s_.2.2.1),(7,.slice (some ⟨s_.2.2.2,0,none⟩) 0 0),(11,.pointer (some ⟨b,1,none⟩))]) (fun s_ w'=>Kd.R (Kd.int .u8) 5 w' W1.heap.size (fun k=>k≠s_.2.2.2) (.slice s_.2.1 n.f1.length s_.2.2.1) n.f1/\Kd.R (Kd.int .u8) 5 w' W1.heap.size (fun _=>True) (.slice (some ⟨s_.2.2.2,0,none⟩) 0 0) []/\Below W1.heap.size W1 w') ?_ ?_
 rotate_left
 ·intro hCont
  refine two_ (i:=0) (j:=4) (Ni:=some 3) (Nj:=some 7) (bt_ 12 103) (bt_ 12 118) rfl rfl rfl rfl (two_of HT_.out (by kernel_rfl)) (by decide) (by decide) (fun K hK=>?_) (fun K hK=>?_)
  ·skip
   refine value_ (v:=.slice (some ⟨w1.heap.size,0,none⟩) 0 0) (w1:=w1.alloc (.cells #[] 5)) (by rfl) rfl ?_ ?_
   ·(go_simp<;>first|rfl|done)
   obtain ⟨g1,wa,hal,hsz,hr1⟩:=lit0_new w1 W1.heap.size HB0.out.size
   rw [hal.1,hal.2]
   clear hal
   refine hK.out _ _ (HSOK.out _ (HB0.out.trans (hsz.2.2.mono HB0.out.size))) (fun hHeld=>?_)
   clear hK K
   refine norm_ (a':=?_) ?_ ?_
   rotate_left
   ·show Act.put _ (some 3) _=_
    simp only [pq_]
    rfl
   have HBa:=z_ (HB0.out.trans (hsz.2.2.mono HB0.out.size))
   have HSa:=z_ hsz
   have HR1:=z_ hr1
   clear hr1 hsz
   refine two_ (i:=3) (j:=4) (Ni:=some 6) (Nj:=some 7) (bt_ 12 111) (bt_ 12 119) rfl rfl rfl rfl (two_of HT_.out (by kernel_rfl)) (by decide) (by decide) (fun K hK=>?_) (fun K hK=>?_)
   ·skip
    refine app8_step W1.heap.size (by rfl) (.tmp 3) (.tmp 5) rfl rfl (.slice (some ⟨g1,0,none⟩) 0 0) A1 n.f1.length c1 (fun _=>True) rfl rfl n.f1 HR1.out (H1C.out _ HBa.out) (fun _ _=>trivial) HBa.out.size (by have:=HLEN.out;omega) ?_
    intro E1 e1 wb hr hx hg
    refine hK.out _ _ (HSOK.out _ (HBa.out.trans hx)) (fun hHeld=>?_)
    clear hK K
    refine norm_ (a':=?_) ?_ ?_
    rotate_left
    ·show Act.put _ (some 6) _=_
     simp only [pq_]
     rfl
    have HBb:=z_ (HBa.out.trans hx)
    have HRc:=z_ hr
    clear hr hx hg
    refine pure_ (i:=8) (N:=some 11) (v:=?_) (a':=?_) (bt_ 12 367) rfl rfl (any_of HT_.out (by kernel_rfl)) (fun _ _ _ h=>h) (Or.inl ⟨by rfl,?_⟩) ?_ ?_
    rotate_left
    ·intro w'
     go_simp
     with_reducible rfl
    rotate_left
    ·simp only [pq_]
     rfl
    refine one_ (i:=4) (N:=some 7) (bt_ 12 383) rfl rfl (one_of HT_.out (by kernel_rfl)) (by decide) (fun K hK=>?_)
    refine value_ (v:=.slice (some ⟨wb.heap.size,0,none⟩) 0 0) (w1:=wb.alloc (.cells #[] 5)) (by rfl) rfl ?_ ?_
    ·(go_simp<;>first|rfl|done)
    obtain ⟨g2,wc,hal,hsz,hr2⟩:=lit0_new wb W1.heap.size HBb.out.size
    rw [hal.1,hal.2]
    clear hal
    refine hK.out _ _ (HSOK.out _ (HBb.out.trans (hsz.2.2.mono HBb.out.size))) (fun hHeld=>?_)
    clear hK K
    refine norm_ (a':=?_) ?_ ?_
    rotate_left
    ·show Act.put _ (some 7) _=_
     simp only [pq_]
     rfl
    have HBq:=z_ (HBb.out.trans (hsz.2.2.mono HBb.out.size))
    have HRb:=z_ hr2
    have HRa:=z_ (Kd.R_mono (Kd.R_below (Kd.R_bound HRc.out) hsz.2.2) (ok':=fun k=>k≠g2) (fun k hk=>by have h1:=hk.2.1;have h2:=hsz.1;omega))
    clear hr2 hsz HRc
    exact norm_ (by simp only [putAll,Act.put,List.setIfInBounds_toArray,List.set_cons_zero,List.set_cons_succ]) (hCont (g1,E1,e1,g2) _ ⟨HRa.out,HRb.out,HBq.out⟩)
   ·skip
    refine value_ (v:=.slice (some ⟨wa.heap.size,0,none⟩) 0 0) (w1:=wa.alloc (.cells #[] 5)) (by rfl) rfl ?_ ?_
    ·(go_simp<;>first|rfl|done)
    obtain ⟨g2,wb,hal,hsz,hr2⟩:=lit0_new wa W1.heap.size HBa.out.size
    rw [hal.1,hal.2]
    clear hal
    refine hK.out _ _ (HSOK.out _ (HBa.out.trans (hsz.2.2.mono HBa.out.size))) (fun hHeld=>?_)
    clear hK K
    refine norm_ (a':=?_) ?_ ?_
    rotate_left
    ·show Act.put _ (some 7) _=_
     simp only [pq_]
     rfl
    have HBb:=z_ (HBa.out.trans (hsz.2.2.mono HBa.out.size))
    have HRd:=z_ hr2
    have HSb:=z_ hsz
    have HR1b:=z_ (Kd.R_reok (ok:=fun k=>k≠g2) rfl (Kd.R_below HR1.out hsz.2.2) (fun k e=>by rw [own_some] at e;have e:=Option.some.inj e;have h1:=HSa.out.2.1;have h2:=hsz.1;omega))
    clear hr2 hsz
    refine one_ (i:=3) (N:=some 6) (bt_ 12 127) rfl rfl (one_of HT_.out (by kernel_rfl)) (by decide) (fun K hK=>?_)
    refine app8_step W1.heap.size (by rfl) (.tmp 3) (.tmp 5) rfl rfl (.slice (some ⟨g1,0,none⟩) 0 0) A1 n.f1.length c1 (fun k=>k≠g2) rfl rfl n.f1 HR1b.out (H1C.out _ HBb.out) (fun k hk=>by have:=HSb.out.2.1;omega) HBb.out.size (by have:=HLEN.out;omega) ?_
    intro E1 e1 wc hr hx hg
    refine hK.out _ _ (HSOK.out _ (HBb.out.trans hx)) (fun hHeld=>?_)
    clear hK K
    refine norm_ (a':=?_) ?_ ?_
    rotate_left
    ·show Act.put _ (some 6) _=_
     simp only [pq_]
     rfl
    have HBq:=z_ (HBb.out.trans hx)
    have HRa:=z_ hr
    have HRb:=z_ (Kd.R_mono (Kd.R_step (Kd.R_reok (ok:=fun k=>k=g2) rfl HRd.out (fun k e=>by rw [own_some] at e;exact (Option.some.inj e).symm)) (fun k hk hl=>hg.block k hl (fun e=>by rw [own_some] at e;have e:=Option.some.inj e;have h1:=HSa.out.2.1;have h2:=HSb.out.1;omega))) (fun _ _=>trivial))
    clear hr hx hg
    refine pure_ (i:=8) (N:=some 11) (v:=?_) (a':=?_) (bt_ 12 383) rfl rfl (any_of HT_.out (by kernel_rfl)) (fun _ _ _ h=>h) (Or.inl ⟨by rfl,?_⟩) ?_ ?_
    rotate_left
    ·intro w'
     go_simp
     with_reducible rfl
    rotate_left
    ·simp only [pq_]
     rfl
    exact norm_ (by simp only [putAll,Act.put,List.setIfInBounds_toArray,List.set_cons_zero,List.set_cons_succ]) (hCont (g1,E1,e1,g2) _ ⟨HRa.out,HRb.out,HBq.out⟩)
  ·skip
   refine value_ (v:=.slice (some ⟨w1.heap.size,0,none⟩) 0 0) (w1:=w1.alloc (.cells #[] 5)) (by rfl) rfl ?_ ?_
   ·(go_simp<;>first|rfl|done)
   obtain ⟨g2,wa,hal,hsz,hr2⟩:=lit0_new w1 W1.heap.size HB0.out.size
   rw [hal.1,hal.2]
   clear hal
   refine hK.out _ _ (HSOK.out _ (HB0.out.trans (hsz.2.2.mono HB0.out.size))) (fun hHeld=>?_)
   clear hK K
   refine norm_ (a':=?_) ?_ ?_
   rotate_left
   ·show Act.put _ (some 7) _=_
    simp only [pq_]
    rfl
   have HBa:=z_ (HB0.out.trans (hsz.2.2.mono HB0.out.size))
   have HSa:=z_ hsz
   have HR2:=z_ hr2
   clear hr2 hsz
   refine one_ (i:=0) (N:=some 3) (bt_ 12 119) rfl rfl (one_of HT_.out (by kernel_rfl)) (by decide) (fun K hK=>?_)
   refine value_ (v:=.slice (some ⟨wa.heap.size,0,none⟩) 0 0) (w1:=wa.alloc (.cells #[] 5)) (by rfl) rfl ?_ ?_
   ·(go_simp<;>first|rfl|done)
   obtain ⟨g1,wb,hal,hsz,hr1⟩:=lit0_new wa W1.heap.size HBa.out.size
   rw [hal.1,hal.2]
   clear hal
   refine hK.out _ _ (HSOK.out _ (HBa.out.trans (hsz.2.2.mono HBa.out.size))) (fun hHeld=>?_)
   clear hK K
   refine norm_ (a':=?_) ?_ ?_
   rotate_left
   ·show Act.put _ (some 3) _=_
    simp only [pq_]
    rfl
   have HBb:=z_ (HBa.out.trans (hsz.2.2.mono HBa.out.size))
   have HSb:=z_ hsz
   have HR1b:=z_ (Kd.R_reok (ok:=fun k=>k≠g2) rfl hr1 (fun k e=>by rw [own_some] at e;have e:=Option.some.inj e;have h1:=HSa.out.2.1;have h2:=hsz.1;omega))
   have HRd:=z_ (Kd.R_below HR2.out hsz.2.2)
   clear hr1 hsz
   refine one_ (i:=3) (N:=some 6) (bt_ 12 127) rfl rfl (one_of HT_.out (by kernel_rfl)) (by decide) (fun K hK=>?_)
   refine app8_step W1.heap.size (by rfl) (.tmp 3) (.tmp 5) rfl rfl (.slice (some ⟨g1,0,none⟩) 0 0) A1 n.f1.length c1 (fun k=>k≠g2) rfl rfl n.f1 HR1b.out (H1C.out _ HBb.out) (fun k hk=>by have:=HSa.out.2.1;have:=HSb.out.2.1;have:=HSb.out.1;omega) HBb.out.size (by have:=HLEN.out;omega) ?_
   intro E1 e1 wc hr hx hg
   refine hK.out _ _ (HSOK.out _ (HBb.out.trans hx)) (fun hHeld=>?_)
   clear hK K
   refine norm_ (a':=?_) ?_ ?_
   rotate_left
   ·show Act.put _ (some 6) _=_
    simp only [pq_]
    rfl
   have HBq:=z_ (HBb.out.trans hx)
   have HRa:=z_ hr
   have HRb:=z_ (Kd.R_mono (Kd.R_step (Kd.R_reok (ok:=fun k=>k=g2) rfl HRd.out (fun k e=>by rw [own_some] at e;exact (Option.some.inj e).symm)) (fun k hk hl=>hg.block k hl (fun e=>by rw [own_some] at e;have e:=Option.some.inj e;have h1:=HSa.out.2.1;have h2:=HSb.out.1;omega))) (fun _ _=>trivial))
   clear hr hx hg
   refine pure_ (i:=8) (N:=some 11) (v:=?_) (a':=?_) (bt_ 12 383) rfl rfl (any_of HT_.out (by kernel_rfl)) (fun _ _ _ h=>h) (Or.inl ⟨by rfl,?_⟩) ?_ ?_
   rotate_left
   ·intro w'
    go_simp
    with_reducible rfl
   rotate_left
   ·simp only [pq_]
    rfl
   exact norm_ (by simp only [putAll,Act.put,List.setIfInBounds_toArray,List.set_cons_zero,List.set_cons_succ]) (hCont (g1,E1,e1,g2) _ ⟨HRa.out,HRb.out,HBq.out⟩)
 rintro ⟨g1,E1,e1,g2⟩ wq ⟨hra,hrb,hbq⟩
 have hHeld:=HSOK.out _ hbq
 have HRa:=z_ hra
 have HRb:=z_ hrb
 have HBq:=z_ hbq
 clear hra hrb hbq
 refine norm_ (a':=?_) ?_ ?_
 rotate_left
 ·simp only [putAll,Act.put,List.setIfInBounds_toArray,List.set_cons_zero,List.set_cons_succ]
  rfl
 refine one_ (i:=7) (N:=some 10) (bt_ 12 511) rfl rfl (one_of HT_.out (by kernel_rfl)) (by decide) (fun K hK=>?_)
 refine app8_step W1.heap.size (by rfl) (.tmp 7) (.tmp 9) rfl rfl (.slice (some ⟨g2,0,none⟩) 0 0) A2 n.f2.length c2 (fun _=>True) rfl rfl n.f2 HRb.out (H2C.out _ HBq.out) (fun _ _=>trivial) HBq.out.size (by have:=HLEN.out;omega) ?_
 intro E2 e2 wz hr hx hg
 refine hK.out _ _ (HSOK.out _ (HBq.out.trans hx)) (fun hHeld=>?_)
 clear hK K
 refine norm_ (a':=?_) ?_ ?_
 rotate_left
 ·show Act.put _ (some 10) _=_
  simp only [pq_]
  rfl
 have HBz:=z_ (HBq.out.trans hx)
 have HR2:=z_ hr
 have HR1:=z_ (Kd.R_mono (Kd.R_step HRa.out (fun k hk hl=>hg.block k hl (fun e=>by rw [own_some] at e;exact hk (Option.some.inj e)))) (ok':=fun _=>True) (fun _ _=>trivial))
 clear hr hx hg HRa HRb HBq
 refine last_ (i:=9) (N:=none) (bt_ 12 1023) rfl rfl (one_of HT_.out (by kernel_rfl)) (by decide) (fun K hK=>?_)
 have HNz:=z_ (NdB.below HN1.out HBz.out)
 have k3:=blk_cell HNz.out 1
 have kf:=blk_frozen HNz.out 1
 obtain ⟨wu,hwu⟩ : ∃wu,wu=wz.setCell ⟨b,1,none⟩ (.slice E1 n.f1.length e1):=⟨_,rfl⟩
 have HWU:=z_ hwu
 refine skip_ (w1:=wu) (by rfl) rfl ?_ ?_
 ·(go_simp<;>first|rfl|(rw [hwu];rfl)|(subst hwu;rfl))
 clear k3 kf hwu hHeld
 have HNu:=z_ (show NdB wu b [.bool n.f0,.slice E1 n.f1.length e1,.slice A2 n.f2.length c2,.int .i64 n.f3,.int .i64 n.f4,.slice A5 n.f5.length c5,.int .i64 n.f6,.int .i64 n.f7,.int .i64 n.f8,.slice A9 n.f9.length c9] from by rw [HWU.out];exact blk_set HNz.out 1 _)
 refine hK.out _ _ ?_
 clear hK K
 refine pure_ (i:=10) (N:=some 12) (v:=?_) (a':=?_) (bt_ 12 2047) rfl rfl (any_of HT_.out (by kernel_rfl)) (fun _ _ _ h=>h) (Or.inl ⟨by rfl,?_⟩) ?_ ?_
 rotate_left
 ·intro w'
  go_simp
  with_reducible rfl
 rotate_left
 ·simp only [pq_]
  rfl
 refine last_ (i:=11) (N:=none) (bt_ 12 4095) rfl rfl (one_of HT_.out (by kernel_rfl)) (by decide) (fun K hK=>?_)
 have k3:=blk_cell HNu.out 2
 have kf:=blk_frozen HNu.out 2
 obtain ⟨w2,hwv⟩ : ∃wv,wv=wu.setCell ⟨b,2,none⟩ (.slice E2 n.f2.length e2):=⟨_,rfl⟩
 have HWV:=z_ hwv
 refine skip_ (w1:=w2) (by rfl) rfl ?_ ?_
 ·(go_simp<;>first|rfl|(rw [hwv];rfl)|(subst hwv;rfl))
 clear k3 kf hwv
 have HNva:=z_ (show NdB w2 b [.bool n.f0,.slice E1 n.f1.length e1,.slice E2 n.f2.length e2,.int .i64 n.f3,.int .i64 n.f4,.slice A5 n.f5.length c5,.int .i64 n.f6,.int .i64 n.f7,.int .i64 n.f8,.slice A9 n.f9.length c9] from by rw [HWV.out];exact blk_set HNu.out 2 _)
 refine hK.out _ _ ?_
 clear hK K
 refine done_ (done_of HT_.out (by kernel_rfl)) ?_
 have HVa:=z_ (show BX w2 (fun k=>W1.heap.size<=k/\k≠b) (.slice E1 n.f1.length e1) n.f1 from Kd.V_step (Kd.V_mono (Kd.R_V (base':=0) (Kd.R_bound (Kd.R_types HR1.out HNz.out (by decide)))) (fun k hk=>⟨hk.2.1,hk.1.2⟩)) (fun k hk _=>by rw [HWV.out,HWU.out,Below.heap_setCell _ _ _ k hk.2,Below.heap_setCell _ _ _ k hk.2]))
 have HVb:=z_ (show BX w2 (fun k=>W1.heap.size<=k/\k≠b) (.slice E2 n.f2.length e2) n.f2 from Kd.V_step (Kd.V_mono (Kd.R_V (base':=0) (Kd.R_bound (Kd.R_types HR2.out HNz.out (by decide)))) (fun k hk=>⟨hk.2.1,hk.1.2⟩)) (fun k hk _=>by rw [HWV.out,HWU.out,Below.heap_setCell _ _ _ k hk.2,Below.heap_setCell _ _ _ k hk.2]))
 have HBva:=z_ (show Kept W1 w2 (fun k=>k=b) from by rw [HWV.out,HWU.out];exact ⟨by simpa using HBz.out.size,fun k hk hn=>by rw [Below.heap_setCell _ _ _ k hn,Below.heap_setCell _ _ _ k hn];exact HBz.out.block k hk⟩)
 have HBwa:=z_ (show Below w.heap.size W1 w2 from by rw [HWV.out,HWU.out];exact Below.setCell (Below.setCell (HBz.out.mono HLE1.out) HGE.out _) HGE.out _)
 have HB2:=z_ (show Below w.heap.size w w2 from HB1.out.trans HBwa.out)
 have HLE2:=z_ (show w.heap.size<=w2.heap.size from HB2.out.size)
 have H5C:=z_ (show ∀W,Below w2.heap.size w2 W->Kd.C (Kd.int .u8) W A5 n.f5.length n.f5 from fun W hb=>(Kd.V_reads' (Kd.V_below (Kd.V_below HX5.out HB2.out) hb)).2.2)
 have H9C:=z_ (show ∀W,Below w2.heap.size w2 W->Kd.C (Kd.int .u8) W A9 n.f9.length n.f9 from fun W hb=>(Kd.V_reads' (Kd.V_below (Kd.V_below HX9.out HB2.out) hb)).2.2)
 have HN2:=z_ HNva.out
 have HZ2:=z_ (show NdB w2 z zeroR from (HBva.out.2 z (blk_lt HZ1.out) (by have:=HBE.out;omega)).trans HZ1.out)
 clear HNva hHeld H1C H2C HSOK HT_ HW_ HB0 HR1 HR2 HBz HNz HWU HNu HWV
 go_wp2_with fail
 have HSOK:=z_ (show ∀W,Below w2.heap.size w2 W->W.cell? ⟨b,5,none⟩=some (.slice A5 n.f5.length c5)/\W.cell? ⟨b,9,none⟩=some (.slice A9 n.f9.length c9) from fun W hb=>⟨blk_cell (NdB.below HN2.out hb) 5,blk_cell (NdB.below HN2.out hb) 9⟩)
 refine start_ (n:=12) (S:=fun w'=>w'.cell? ⟨b,5,none⟩=some (.slice A5 n.f5.length c5)/\w'.cell? ⟨b,9,none⟩=some (.slice A9 n.f9.length c9)) (ds:=[9,11]) (bt_ 12 0) (by kernel_rfl) rfl rfl (HSOK.out _ (below_drew (Below.refl _ _))) (fun hHeld=>?_);refine with_tabW rcopy_tab2 rcopy_bits2 (fun HT_ HW_=>?_)
 have HB0:=z_ (show Below w2.heap.size w2 w2.drew from below_drew (Below.refl _ _))
 generalize hgw:w2.drew=w3 at HB0 hHeld ⊢
 clear hgw
 refine pure_ (i:=1) (N:=some 14) (v:=?_) (a':=?_) (bt_ 12 2) rfl rfl (any_of HT_.out (by kernel_rfl)) (fun _ _ _ h=>h) (Or.inl ⟨by rfl,?_⟩) ?_ ?_
 rotate_left
 ·intro w'
  go_simp
  with_reducible rfl
 rotate_left
 ·simp only [pq_]
  rfl
 refine take_ (i:=2) (N:=some 15) (v:=?_) (a':=?_) (bt_ 12 6) rfl rfl (take_ofW HT_.out HW_.out (by kernel_rfl)) (fun _ _ _ h=>h) (Or.inl ⟨by rfl,?_⟩) hHeld ?_ ?_
 rotate_left
 ·rintro w' ⟨s0,s1⟩
  go_simp
  with_reducible rfl
 rotate_left
 ·simp only [pq_]
  rfl
 refine pure_ (i:=5) (N:=some 18) (v:=?_) (a':=?_) (bt_ 12 38) rfl rfl (any_of HT_.out (by kernel_rfl)) (fun _ _ _ h=>h) (Or.inl ⟨by rfl,?_⟩) ?_ ?_
 rotate_left
 ·intro w'
  go_simp
  with_reducible rfl
 rotate_left
 ·simp only [pq_]
  rfl
 refine take_ (i:=6) (N:=some 19) (v:=?_) (a':=?_) (bt_ 12 102) rfl rfl (take_ofW HT_.out HW_.out (by kernel_rfl)) (fun _ _ _ h=>h) (Or.inl ⟨by rfl,?_⟩) hHeld ?_ ?_
 rotate_left
 ·rintro w' ⟨s0,s1⟩
  go_simp
  with_reducible rfl
 rotate_left
 ·simp only [pq_]
  rfl
 refine join_ (σ:=Nat×Option Addr×Nat×Nat) 4 (bt_ 12 383) (fun s_=>[(13,.slice (some ⟨s_.1,0,none⟩) 0 0),(16,.slice s_.2.1 n.f5.length s_.2.2.1),(17,.slice (some ⟨s_.2.2.2,0,none⟩) 0 0),(21,.pointer (some ⟨b,5,none⟩))]) (fun s_ w'=>Kd.R (Kd.int .u8) 5 w' w2.heap.size (fun k=>k≠s_.2.2.2) (.slice s_.2.1 n.f5.length s_.2.2.1) n.f5/\Kd.R (Kd.int .u8) 5 w' w2.heap.size (fun _=>True) (.slice (some ⟨s_.2.2.2,0,none⟩) 0 0) []/\Below w2.heap.size w2 w') ?_ ?_
 rotate_left
 ·intro hCont
  refine two_ (i:=0) (j:=4) (Ni:=some 13) (Nj:=some 17) (bt_ 12 103) (bt_ 12 118) rfl rfl rfl rfl (two_of HT_.out (by kernel_rfl)) (by decide) (by decide) (fun K hK=>?_) (fun K hK=>?_)
  ·skip
   refine value_ (v:=.slice (some ⟨w3.heap.size,0,none⟩) 0 0) (w1:=w3.alloc (.cells #[] 5)) (by rfl) rfl ?_ ?_
   ·(go_simp<;>first|rfl|done)
   obtain ⟨g1,wa,hal,hsz,hr1⟩:=lit0_new w3 w2.heap.size HB0.out.size
   rw [hal.1,hal.2]
   clear hal
   refine hK.out _ _ (HSOK.out _ (HB0.out.trans (hsz.2.2.mono HB0.out.size))) (fun hHeld=>?_)
   clear hK K
   refine norm_ (a':=?_) ?_ ?_
   rotate_left
   ·show Act.put _ (some 13) _=_
    simp only [pq_]
    rfl
   have HBa:=z_ (HB0.out.trans (hsz.2.2.mono HB0.out.size))
   have HSa:=z_ hsz
   have HR1:=z_ hr1
   clear hr1 hsz
   refine two_ (i:=3) (j:=4) (Ni:=some 16) (Nj:=some 17) (bt_ 12 111) (bt_ 12 119) rfl rfl rfl rfl (two_of HT_.out (by kernel_rfl)) (by decide) (by decide) (fun K hK=>?_) (fun K hK=>?_)
   ·skip
    refine app8_step w2.heap.size (by rfl) (.tmp 13) (.tmp 15) rfl rfl (.slice (some ⟨g1,0,none⟩) 0 0) A5 n.f5.length c5 (fun _=>True) rfl rfl n.f5 HR1.out (H5C.out _ HBa.out) (fun _ _=>trivial) HBa.out.size (by have:=HLEN.out;omega) ?_
    intro B1 d1 wb hr hx hg
    refine hK.out _ _ (HSOK.out _ (HBa.out.trans hx)) (fun hHeld=>?_)
    clear hK K
    refine norm_ (a':=?_) ?_ ?_
    rotate_left
    ·show Act.put _ (some 16) _=_
     simp only [pq_]
     rfl
    have HBb:=z_ (HBa.out.trans hx)
    have HRc:=z_ hr
    clear hr hx hg
    refine pure_ (i:=8) (N:=some 21) (v:=?_) (a':=?_) (bt_ 12 367) rfl rfl (any_of HT_.out (by kernel_rfl)) (fun _ _ _ h=>h) (Or.inl ⟨by rfl,?_⟩) ?_ ?_
    rotate_left
    ·intro w'
     go_simp
     with_reducible rfl
    rotate_left
    ·simp only [pq_]
     rfl
    refine one_ (i:=4) (N:=some 17) (bt_ 12 383) rfl rfl (one_of HT_.out (by kernel_rfl)) (by decide) (fun K hK=>?_)
    refine value_ (v:=.slice (some ⟨wb.heap.size,0,none⟩) 0 0) (w1:=wb.alloc (.cells #[] 5)) (by rfl) rfl ?_ ?_
    ·(go_simp<;>first|rfl|done)
    obtain ⟨g2,wc,hal,hsz,hr2⟩:=lit0_new wb w2.heap.size HBb.out.size
    rw [hal.1,hal.2]
    clear hal
    refine hK.out _ _ (HSOK.out _ (HBb.out.trans (hsz.2.2.mono HBb.out.size))) (fun hHeld=>?_)
    clear hK K
    refine norm_ (a':=?_) ?_ ?_
    rotate_left
    ·show Act.put _ (some 17) _=_
     simp only [pq_]
     rfl
    have HBq:=z_ (HBb.out.trans (hsz.2.2.mono HBb.out.size))
    have HRb:=z_ hr2
    have HRa:=z_ (Kd.R_mono (Kd.R_below (Kd.R_bound HRc.out) hsz.2.2) (ok':=fun k=>k≠g2) (fun k hk=>by have h1:=hk.2.1;have h2:=hsz.1;omega))
    clear hr2 hsz HRc
    exact norm_ (by simp only [putAll,Act.put,List.setIfInBounds_toArray,List.set_cons_zero,List.set_cons_succ]) (hCont (g1,B1,d1,g2) _ ⟨HRa.out,HRb.out,HBq.out⟩)
   ·skip
    refine value_ (v:=.slice (some ⟨wa.heap.size,0,none⟩) 0 0) (w1:=wa.alloc (.cells #[] 5)) (by rfl) rfl ?_ ?_
    ·(go_simp<;>first|rfl|done)
    obtain ⟨g2,wb,hal,hsz,hr2⟩:=lit0_new wa w2.heap.size HBa.out.size
    rw [hal.1,hal.2]
    clear hal
    refine hK.out _ _ (HSOK.out _ (HBa.out.trans (hsz.2.2.mono HBa.out.size))) (fun hHeld=>?_)
    clear hK K
    refine norm_ (a':=?_) ?_ ?_
    rotate_left
    ·show Act.put _ (some 17) _=_
     simp only [pq_]
     rfl
    have HBb:=z_ (HBa.out.trans (hsz.2.2.mono HBa.out.size))
    have HRd:=z_ hr2
    have HSb:=z_ hsz
    have HR1b:=z_ (Kd.R_reok (ok:=fun k=>k≠g2) rfl (Kd.R_below HR1.out hsz.2.2) (fun k e=>by rw [own_some] at e;have e:=Option.some.inj e;have h1:=HSa.out.2.1;have h2:=hsz.1;omega))
    clear hr2 hsz
    refine one_ (i:=3) (N:=some 16) (bt_ 12 127) rfl rfl (one_of HT_.out (by kernel_rfl)) (by decide) (fun K hK=>?_)
    refine app8_step w2.heap.size (by rfl) (.tmp 13) (.tmp 15) rfl rfl (.slice (some ⟨g1,0,none⟩) 0 0) A5 n.f5.length c5 (fun k=>k≠g2) rfl rfl n.f5 HR1b.out (H5C.out _ HBb.out) (fun k hk=>by have:=HSb.out.2.1;omega) HBb.out.size (by have:=HLEN.out;omega) ?_
    intro B1 d1 wc hr hx hg
    refine hK.out _ _ (HSOK.out _ (HBb.out.trans hx)) (fun hHeld=>?_)
    clear hK K
    refine norm_ (a':=?_) ?_ ?_
    rotate_left
    ·show Act.put _ (some 16) _=_
     simp only [pq_]
     rfl
    have HBq:=z_ (HBb.out.trans hx)
    have HRa:=z_ hr
    have HRb:=z_ (Kd.R_mono (Kd.R_step (Kd.R_reok (ok:=fun k=>k=g2) rfl HRd.out (fun k e=>by rw [own_some] at e;exact (Option.some.inj e).symm)) (fun k hk hl=>hg.block k hl (fun e=>by rw [own_some] at e;have e:=Option.some.inj e;have h1:=HSa.out.2.1;have h2:=HSb.out.1;omega))) (fun _ _=>trivial))
    clear hr hx hg
    refine pure_ (i:=8) (N:=some 21) (v:=?_) (a':=?_) (bt_ 12 383) rfl rfl (any_of HT_.out (by kernel_rfl)) (fun _ _ _ h=>h) (Or.inl ⟨by rfl,?_⟩) ?_ ?_
    rotate_left
    ·intro w'
     go_simp
     with_reducible rfl
    rotate_left
    ·simp only [pq_]
     rfl
    exact norm_ (by simp only [putAll,Act.put,List.setIfInBounds_toArray,List.set_cons_zero,List.set_cons_succ]) (hCont (g1,B1,d1,g2) _ ⟨HRa.out,HRb.out,HBq.out⟩)
  ·skip
   refine value_ (v:=.slice (some ⟨w3.heap.size,0,none⟩) 0 0) (w1:=w3.alloc (.cells #[] 5)) (by rfl) rfl ?_ ?_
   ·(go_simp<;>first|rfl|done)
   obtain ⟨g2,wa,hal,hsz,hr2⟩:=lit0_new w3 w2.heap.size HB0.out.size
   rw [hal.1,hal.2]
   clear hal
   refine hK.out _ _ (HSOK.out _ (HB0.out.trans (hsz.2.2.mono HB0.out.size))) (fun hHeld=>?_)
   clear hK K
   refine norm_ (a':=?_) ?_ ?_
   rotate_left
   ·show Act.put _ (some 17) _=_
    simp only [pq_]
    rfl
   have HBa:=z_ (HB0.out.trans (hsz.2.2.mono HB0.out.size))
   have HSa:=z_ hsz
   have HR2:=z_ hr2
   clear hr2 hsz
   refine one_ (i:=0) (N:=some 13) (bt_ 12 119) rfl rfl (one_of HT_.out (by kernel_rfl)) (by decide) (fun K hK=>?_)
   refine value_ (v:=.slice (some ⟨wa.heap.size,0,none⟩) 0 0) (w1:=wa.alloc (.cells #[] 5)) (by rfl) rfl ?_ ?_
   ·(go_simp<;>first|rfl|done)
   obtain ⟨g1,wb,hal,hsz,hr1⟩:=lit0_new wa w2.heap.size HBa.out.size
   rw [hal.1,hal.2]
   clear hal
   refine hK.out _ _ (HSOK.out _ (HBa.out.trans (hsz.2.2.mono HBa.out.size))) (fun hHeld=>?_)
   clear hK K
   refine norm_ (a':=?_) ?_ ?_
   rotate_left
   ·show Act.put _ (some 13) _=_
    simp only [pq_]
    rfl
   have HBb:=z_ (HBa.out.trans (hsz.2.2.mono HBa.out.size))
   have HSb:=z_ hsz
   have HR1b:=z_ (Kd.R_reok (ok:=fun k=>k≠g2) rfl hr1 (fun k e=>by rw [own_some] at e;have e:=Option.some.inj e;have h1:=HSa.out.2.1;have h2:=hsz.1;omega))
   have HRd:=z_ (Kd.R_below HR2.out hsz.2.2)
   clear hr1 hsz
   refine one_ (i:=3) (N:=some 16) (bt_ 12 127) rfl rfl (one_of HT_.out (by kernel_rfl)) (by decide) (fun K hK=>?_)
   refine app8_step w2.heap.size (by rfl) (.tmp 13) (.tmp 15) rfl rfl (.slice (some ⟨g1,0,none⟩) 0 0) A5 n.f5.length c5 (fun k=>k≠g2) rfl rfl n.f5 HR1b.out (H5C.out _ HBb.out) (fun k hk=>by have:=HSa.out.2.1;have:=HSb.out.2.1;have:=HSb.out.1;omega) HBb.out.size (by have:=HLEN.out;omega) ?_
   intro B1 d1 wc hr hx hg
   refine hK.out _ _ (HSOK.out _ (HBb.out.trans hx)) (fun hHeld=>?_)
   clear hK K
   refine norm_ (a':=?_) ?_ ?_
   rotate_left
   ·show Act.put _ (some 16) _=_
    simp only [pq_]
    rfl
   have HBq:=z_ (HBb.out.trans hx)
   have HRa:=z_ hr
   have HRb:=z_ (Kd.R_mono (Kd.R_step (Kd.R_reok (ok:=fun k=>k=g2) rfl HRd.out (fun k e=>by rw [own_some] at e;exact (Option.some.inj e).symm)) (fun k hk hl=>hg.block k hl (fun e=>by rw [own_some] at e;have e:=Option.some.inj e;have h1:=HSa.out.2.1;have h2:=HSb.out.1;omega))) (fun _ _=>trivial))
   clear hr hx hg
   refine pure_ (i:=8) (N:=some 21) (v:=?_) (a':=?_) (bt_ 12 383) rfl rfl (any_of HT_.out (by kernel_rfl)) (fun _ _ _ h=>h) (Or.inl ⟨by rfl,?_⟩) ?_ ?_
   rotate_left
   ·intro w'
    go_simp
    with_reducible rfl
   rotate_left
   ·simp only [pq_]
    rfl
   exact norm_ (by simp only [putAll,Act.put,List.setIfInBounds_toArray,List.set_cons_zero,List.set_cons_succ]) (hCont (g1,B1,d1,g2) _ ⟨HRa.out,HRb.out,HBq.out⟩)
 rintro ⟨g1,B1,d1,g2⟩ wq ⟨hra,hrb,hbq⟩
 have hHeld:=HSOK.out _ hbq
 have HRa:=z_ hra
 have HRb:=z_ hrb
 have HBq:=z_ hbq
 clear hra hrb hbq
 refine norm_ (a':=?_) ?_ ?_
 rotate_left
 ·simp only [putAll,Act.put,List.setIfInBounds_toArray,List.set_cons_zero,List.set_cons_succ]
  rfl
 refine one_ (i:=7) (N:=some 20) (bt_ 12 511) rfl rfl (one_of HT_.out (by kernel_rfl)) (by decide) (fun K hK=>?_)
 refine app8_step w2.heap.size (by rfl) (.tmp 17) (.tmp 19) rfl rfl (.slice (some ⟨g2,0,none⟩) 0 0) A9 n.f9.length c9 (fun _=>True) rfl rfl n.f9 HRb.out (H9C.out _ HBq.out) (fun _ _=>trivial) HBq.out.size (by have:=HLEN.out;omega) ?_
 intro B2 d2 wz hr hx hg
 refine hK.out _ _ (HSOK.out _ (HBq.out.trans hx)) (fun hHeld=>?_)
 clear hK K
 refine norm_ (a':=?_) ?_ ?_
 rotate_left
 ·show Act.put _ (some 20) _=_
  simp only [pq_]
  rfl
 have HBz:=z_ (HBq.out.trans hx)
 have HR2:=z_ hr
 have HR1:=z_ (Kd.R_mono (Kd.R_step HRa.out (fun k hk hl=>hg.block k hl (fun e=>by rw [own_some] at e;exact hk (Option.some.inj e)))) (ok':=fun _=>True) (fun _ _=>trivial))
 clear hr hx hg HRa HRb HBq
 refine last_ (i:=9) (N:=none) (bt_ 12 1023) rfl rfl (one_of HT_.out (by kernel_rfl)) (by decide) (fun K hK=>?_)
 have HNz:=z_ (NdB.below HN2.out HBz.out)
 have k3:=blk_cell HNz.out 5
 have kf:=blk_frozen HNz.out 5
 obtain ⟨wu,hwu⟩ : ∃wu,wu=wz.setCell ⟨b,5,none⟩ (.slice B1 n.f5.length d1):=⟨_,rfl⟩
 have HWU:=z_ hwu
 refine skip_ (w1:=wu) (by rfl) rfl ?_ ?_
 ·(go_simp<;>first|rfl|(rw [hwu];rfl)|(subst hwu;rfl))
 clear k3 kf hwu hHeld
 have HNu:=z_ (show NdB wu b [.bool n.f0,.slice E1 n.f1.length e1,.slice E2 n.f2.length e2,.int .i64 n.f3,.int .i64 n.f4,.slice B1 n.f5.length d1,.int .i64 n.f6,.int .i64 n.f7,.int .i64 n.f8,.slice A9 n.f9.length c9] from by rw [HWU.out];exact blk_set HNz.out 5 _)
 refine hK.out _ _ ?_
 clear hK K
 refine pure_ (i:=10) (N:=some 22) (v:=?_) (a':=?_) (bt_ 12 2047) rfl rfl (any_of HT_.out (by kernel_rfl)) (fun _ _ _ h=>h) (Or.inl ⟨by rfl,?_⟩) ?_ ?_
 rotate_left
 ·intro w'
  go_simp
  with_reducible rfl
 rotate_left
 ·simp only [pq_]
  rfl
 refine last_ (i:=11) (N:=none) (bt_ 12 4095) rfl rfl (one_of HT_.out (by kernel_rfl)) (by decide) (fun K hK=>?_)
 have k3:=blk_cell HNu.out 9
 have kf:=blk_frozen HNu.out 9
 obtain ⟨w4,hwv⟩ : ∃wv,wv=wu.setCell ⟨b,9,none⟩ (.slice B2 n.f9.length d2):=⟨_,rfl⟩
 have HWV:=z_ hwv
 refine skip_ (w1:=w4) (by rfl) rfl ?_ ?_
 ·(go_simp<;>first|rfl|(rw [hwv];rfl)|(subst hwv;rfl))
 clear k3 kf hwv
 have HNv:=z_ (show NdB w4 b [.bool n.f0,.slice E1 n.f1.length e1,.slice E2 n.f2.length e2,.int .i64 n.f3,.int .i64 n.f4,.slice B1 n.f5.length d1,.int .i64 n.f6,.int .i64 n.f7,.int .i64 n.f8,.slice B2 n.f9.length d2] from by rw [HWV.out];exact blk_set HNu.out 9 _)
 refine hK.out _ _ ?_
 clear hK K
 refine done_ (done_of HT_.out (by kernel_rfl)) ?_
 have HV1:=z_ (show BX w4 (fun k=>w2.heap.size<=k/\k≠b) (.slice B1 n.f5.length d1) n.f5 from Kd.V_step (Kd.V_mono (Kd.R_V (base':=0) (Kd.R_bound (Kd.R_types HR1.out HNz.out (by decide)))) (fun k hk=>⟨hk.2.1,hk.1.2⟩)) (fun k hk _=>by rw [HWV.out,HWU.out,Below.heap_setCell _ _ _ k hk.2,Below.heap_setCell _ _ _ k hk.2]))
 have HV2:=z_ (show BX w4 (fun k=>w2.heap.size<=k/\k≠b) (.slice B2 n.f9.length d2) n.f9 from Kd.V_step (Kd.V_mono (Kd.R_V (base':=0) (Kd.R_bound (Kd.R_types HR2.out HNz.out (by decide)))) (fun k hk=>⟨hk.2.1,hk.1.2⟩)) (fun k hk _=>by rw [HWV.out,HWU.out,Below.heap_setCell _ _ _ k hk.2,Below.heap_setCell _ _ _ k hk.2]))
 have HBv:=z_ (show Kept w2 w4 (fun k=>k=b) from by rw [HWV.out,HWU.out];exact ⟨by simpa using HBz.out.size,fun k hk hn=>by rw [Below.heap_setCell _ _ _ k hn,Below.heap_setCell _ _ _ k hn];exact HBz.out.block k hk⟩)
 have HBw:=z_ (show Below w.heap.size w2 w4 from by rw [HWV.out,HWU.out];exact Below.setCell (Below.setCell (HBz.out.mono HLE2.out) HGE.out _) HGE.out _)
 have HB4:=z_ (show Below w.heap.size w w4 from HB2.out.trans HBw.out)
 have HZ4:=z_ (show NdB w4 z zeroR from (HBv.out.2 z (blk_lt HZ2.out) (by have:=HBE.out;omega)).trans HZ2.out)
 have HN4:=z_ HNv.out
 have HVa4:=z_ (show BX w4 (fun k=>W1.heap.size<=k/\k≠b) (.slice E1 n.f1.length e1) n.f1 from Kd.V_mono (Kd.V_step (Kd.V_bound HVa.out) (fun k hk hl=>HBv.out.2 k hl hk.1.2)) (fun k hk=>hk.1))
 have HVb4:=z_ (show BX w4 (fun k=>W1.heap.size<=k/\k≠b) (.slice E2 n.f2.length e2) n.f2 from Kd.V_mono (Kd.V_step (Kd.V_bound HVb.out) (fun k hk hl=>HBv.out.2 k hl hk.1.2)) (fun k hk=>hk.1))
 have HZL:=z_ (show z<W1.heap.size from blk_lt HZ1.out)
 clear HNv hHeld H5C H9C HSOK HT_ HW_ HB0 HR1 HR2 HBz HNz HWU HNu HWV
 obtain ⟨m0,m1,m2,m3,m4,m5,m6,m7,m8,m9⟩:=NdB.cells HN4.out
 obtain ⟨z0,z1,z2,z3,z4,z5,z6,z7,z8,z9⟩:=NdB.cells HZ4.out
 obtain ⟨f0,f1,f2,f3,f4,f5,f6,f7,f8,f9⟩:=HZ4.out.frozen
 go_wp2_with fail
 refine bodyPost_ret (results_copy _ z (putN_nd HZ4.out _ _ _ _ _ _ _ _ _ _) _ rfl) rfl ⟨putN_below HB4.out (by have:=HBE.out;omega) _ _ _ _ _ _ _ _ _ _,E1,E2,B1,B2,e1,e2,d1,d2,rfl,?_,?_,?_,?_⟩
 ·exact Kd.V_mono (Kd.V_step HVa4.out (fun k hk _=>putN_far (by have:=HZL.out;omega) _ _ _ _ _ _ _ _ _ _)) (fun k hk=>by have:=HLE1.out;omega)
 ·exact Kd.V_mono (Kd.V_step HVb4.out (fun k hk _=>putN_far (by have:=HZL.out;omega) _ _ _ _ _ _ _ _ _ _)) (fun k hk=>by have:=HLE1.out;omega)
 ·exact Kd.V_mono (Kd.V_step HV1.out (fun k hk _=>putN_far (by have:=HZL.out;have:=HBva.out.1;omega) _ _ _ _ _ _ _ _ _ _)) (fun k hk=>by have:=HLE2.out;omega)
 ·exact Kd.V_mono (Kd.V_step HV2.out (fun k hk _=>putN_far (by have:=HZL.out;have:=HBva.out.1;omega) _ _ _ _ _ _ _ _ _ _)) (fun k hk=>by have:=HLE2.out;omega)
set_option maxRecDepth 100000 in
theorem results_nodeR (W:World) (g:Nat) {y0 y1 y2 y3 y4 y5 y6 y7 y8 y9:Value} (b:Bool) (h:NdB W g [y0,y1,y2,y3,y4,y5,y6,y7,y8,y9]) (tm:Array Value) (h4:tm[4]?.getD undef = .pointer (some ⟨g,0,none⟩)) (h5:tm[5]?.getD undef = .bool b):(results Tryz.f22 tm).run Tryz.prog W = .ok (.tuple #[.agg #[y0,y1,y2,y3,y4,y5,y6,y7,y8,y9],.bool b]) W:=by
 obtain ⟨c0,c1,c2,c3,c4,c5,c6,c7,c8,c9⟩:=h.cells
 simp [results,Tryz.results22,go_sem,h4,h5,c0,c1,c2,c3,c4,c5,c6,c7,c8,c9]
theorem nodeAt_some {cs:Cs} {i:Int} {n:Nd} (h:nodeAt cs i=some n) : ∃k:Nat,i=(k:Int)/\cs[k]? = some (some n):=by
 have h1:=nodeAt_lt (cs:=cs) (i:=i) (by rw [h];rfl)
 refine ⟨i.toNat,by omega,?_⟩
 unfold nodeAt at h
 rw [if_pos h1.1,List.getElem?_eq_getElem h1.2] at h
 rw [List.getElem?_eq_getElem h1.2]
 exact congrArg some h
theorem RefM.rowAt {w:World} {base q:Nat} {size most:Int} {vl:Value} {X:Nat->Prop} {cs:Cs} (h:RefM w base q size most vl X cs) (k:Nat) (n:Nd) (hk:cs[k]? = some (some n)) : ∃(g m c:Nat) (A1 A2 A5 A9:Option Addr) (c1 c2 c5 c9:Nat),vl = .slice (some ⟨g,0,none⟩) m c/\k<m/\m=cs.length/\
 BX w X (.slice A1 n.f1.length c1) n.f1/\BX w X (.slice A2 n.f2.length c2) n.f2/\BX w X (.slice A5 n.f5.length c5) n.f5/\BX w X (.slice A9 n.f9.length c9) n.f9/\
 (w.cell? ⟨g,k*10,none⟩=some (.bool n.f0)/\w.cell? ⟨g,k*10+1,none⟩=some (.slice A1 n.f1.length c1)/\w.cell? ⟨g,k*10+2,none⟩=some (.slice A2 n.f2.length c2)/\w.cell? ⟨g,k*10+3,none⟩=some (.int .i64 n.f3)/\w.cell? ⟨g,k*10+4,none⟩=some (.int .i64 n.f4)/\w.cell? ⟨g,k*10+5,none⟩=some (.slice A5 n.f5.length c5)/\w.cell? ⟨g,k*10+6,none⟩=some (.int .i64 n.f6)/\w.cell? ⟨g,k*10+7,none⟩=some (.int .i64 n.f7)/\w.cell? ⟨g,k*10+8,none⟩=some (.int .i64 n.f8)/\w.cell? ⟨g,k*10+9,none⟩=some (.slice A9 n.f9.length c9)):=by
 obtain ⟨rows,hv⟩:=h.mem
 have hlt:k<cs.length:=(List.getElem?_eq_some_iff.1 hk).1
 have hlen:=hv.len
 have hro:rows[k]? = some (rows[k]'(by omega)):=List.getElem?_eq_getElem _
 obtain ⟨⟨A1,A2,A5,A9,c1,c2,c5,c9,hr,b1,b2,b5,b9⟩,_⟩:=hv.row k _ _ hk hro
 obtain ⟨_,g,c,e,hc⟩:=raw_row10 hv.cells k _ hro
 refine ⟨g,rows.length,c,A1,A2,A5,A9,c1,c2,c5,c9,e,by omega,hlen,b1,b2,b5,b9,hc 0 _ (by rw [hr];rfl),hc 1 _ (by rw [hr];rfl),hc 2 _ (by rw [hr];rfl),hc 3 _ (by rw [hr];rfl),hc 4 _ (by rw [hr];rfl),hc 5 _ (by rw [hr];rfl),hc 6 _ (by rw [hr];rfl),hc 7 _ (by rw [hr];rfl),hc 8 _ (by rw [hr];rfl),hc 9 _ (by rw [hr];rfl)⟩
theorem RefM.qblk {w:World} {base q:Nat} {size most:Int} {vl:Value} {X:Nat->Prop} {cs:Cs} (h:RefM w base q size most vl X cs):QBlk w q size most vl:=by
 obtain ⟨rows,hv⟩:=h.mem
 exact hv.blk
set_option maxHeartbeats 8000000 in
set_option maxRecDepth 100000 in
theorem rnode_calls {w:World} {base q:Nat} {size most:Int} {vl:Value} {X:Nat->Prop} {cs:Cs} (h:RefM w base q size most vl X cs) (i:Int) (hlen : ∀n,nodeAt cs i=some n->NdLen n):
 Calls Tryz.prog 22 #[.pointer (some ⟨q,0,none⟩),.int .i64 i] w fun e w'=>NodeV w' (fun k=>w.heap.size<=k) (nodeAt cs i) e/\Below w.heap.size w w':=by
 have HM:=z_ h
 have HLEN:=z_ hlen
 clear h hlen
 go_enter Tryz.func22,Tryz.ntmps22
 go_wp2_with fail
 obtain ⟨W1,hW1⟩ : ∃W1,W1=w.alloc (.cells zeroR.toArray 59):=⟨_,rfl⟩
 change Calls _ _ _ (w.alloc (.cells zeroR.toArray 59)) _
 rw [<-hW1]
 have hB1:Below w.heap.size w W1:=by rw [hW1];exact below_alloc (Below.refl _ _) _
 have h4:NdB W1 w.heap.size zeroR:=by rw [hW1];exact heap_alloc_new w _
 have HM1:=z_ (HM.out.below hB1)
 have HB1:=z_ hB1
 obtain ⟨z,hz⟩ : ∃z,z=w.heap.size:=⟨_,rfl⟩
 rw [<-hz] at h4
 rw [<-hz]
 have HZ:=z_ hz
 have H4:=z_ h4
 clear hz h4 hB1 hW1
 refine (rthere_calls HM1.out i).mono ?_
 rintro e w' ⟨rfl,rfl⟩
 cases ho:nodeAt cs i with
 | none=>
   obtain ⟨z0,z1,z2,z3,z4,z5,z6,z7,z8,z9⟩:=NdB.cells H4.out
   obtain ⟨f0,f1,f2,f3,f4,f5,f6,f7,f8,f9⟩:=H4.out.frozen
   go_wp2_with fail
   refine bodyPost_ret (results_nodeR _ z false (putN_nd H4.out _ _ _ _ _ _ _ _ _ _) _ rfl rfl) rfl ⟨?_,putN_below HB1.out (by rw [HZ.out];exact Nat.le_refl _) _ _ _ _ _ _ _ _ _ _⟩
   rw [ho]
   rfl
 | some n=>
   obtain ⟨k,rfl,hk⟩:=nodeAt_some ho
   obtain ⟨g,m,c,A1,A2,A5,A9,c1,c2,c5,c9,hvl,hkm,hmc,b1,b2,b5,b9,m0,m1,m2,m3,m4,m5,m6,m7,m8,m9⟩:=HM1.out.rowAt k n hk
   have hqb:=HM1.out.qblk
   rw [hvl] at hqb
   obtain ⟨k0,k1,k2⟩:=hqb.cells
   have q1:(k:Int)<(m:Int):=by omega
   have q2:0<=(k:Int):=by omega
   have HX:=z_ (And.intro b1 (And.intro b2 (And.intro b5 b9)))
   have HL:=z_ (HLEN.out n ho)
   have HO:=z_ ho
   clear b1 b2 b5 b9 hqb hvl hmc ho hk hkm
   go_wp2_with fail
   refine (rcopy_calls n HL.out A1 A2 A5 A9 c1 c2 c5 c9 HX.out.1 HX.out.2.1 HX.out.2.2.1 HX.out.2.2.2).mono ?_
   rintro e w2 ⟨hB2,E1,E2,E5,E9,e1,e2,e5,e9,rfl,h1,h2,h5,h9⟩
   have HB2:=z_ hB2
   have HF:=z_ (And.intro h1 (And.intro h2 (And.intro h5 h9)))
   have HZ2:=z_ (NdB.below H4.out hB2)
   clear hB2 h1 h2 h5 h9 k0 k1 k2 m0 m1 m2 m3 m4 m5 m6 m7 m8 m9
   obtain ⟨z0,z1,z2,z3,z4,z5,z6,z7,z8,z9⟩:=NdB.cells HZ2.out
   obtain ⟨f0,f1,f2,f3,f4,f5,f6,f7,f8,f9⟩:=HZ2.out.frozen
   go_wp2_with fail
   have hzl:z<W1.heap.size:=blk_lt H4.out
   have hs:=HB1.out.size
   refine bodyPost_ret (results_nodeR _ z true (putN_nd HZ2.out _ _ _ _ _ _ _ _ _ _) _ rfl rfl) rfl ⟨?_,putN_below (HB1.out.trans (HB2.out.mono HB1.out.size)) (by rw [HZ.out];exact Nat.le_refl _) _ _ _ _ _ _ _ _ _ _⟩
   rw [HO.out]
   have hY : ∀(v:Value) (l:List Int),BX w2 (fun k=>W1.heap.size<=k) v l->BX (putN w2 z (.bool n.f0) (.slice E1 n.f1.length e1) (.slice E2 n.f2.length e2) (.int .i64 n.f3) (.int .i64 n.f4) (.slice E5 n.f5.length e5) (.int .i64 n.f6) (.int .i64 n.f7) (.int .i64 n.f8) (.slice E9 n.f9.length e9)) (fun k=>w.heap.size<=k) v l:=fun v l hv=>
    Kd.V_mono (Kd.V_step hv (fun k hk _=>putN_far (by omega) _ _ _ _ _ _ _ _ _ _)) (fun k hk=>by omega)
   exact ⟨E1,E2,E5,E9,e1,e2,e5,e9,rfl,hY _ _ HF.out.1,hY _ _ HF.out.2.1,hY _ _ HF.out.2.2.1,hY _ _ HF.out.2.2.2⟩
theorem lit0_R (w:World):Kd.R (Kd.int .u8) 5 (w.alloc (.cells #[] 5)) w.heap.size (fun _=>True) (.slice (some ⟨w.heap.size,0,none⟩) 0 0) []:=by
 refine ⟨fun _ _=>trivial,[],?_,Kd.reps_scalar ([]:List Int)⟩
 have h2:=World.ownsRow_lit (base:=w.heap.size) (e:=5) (size:=1) w #[] 0 (Nat.le_refl _) (by decide) (by rfl)
 exact h2
set_option maxHeartbeats 8000000 in
set_option maxRecDepth 100000 in
theorem rhashA_calls {w:World} {base q:Nat} {size most:Int} {vl:Value} {X:Nat->Prop} {cs:Cs} (h:RefM w base q size most vl X cs) (i:Int) (hlen : ∀n,nodeAt cs i=some n->n.f9.length<=65535):
 Calls Tryz.prog 47 #[.pointer (some ⟨q,0,none⟩),.int .i64 i] w fun e w'=>(∃v,e = .returned v/\BX w' (fun k=>w.heap.size<=k) v (hashAt size cs i))/\Below w.heap.size w w':=by
 have HM:=z_ h
 have HLEN:=z_ hlen
 obtain ⟨k0,k1,k2⟩:=h.qblk.cells
 clear h hlen
 by_cases hi:i = -1
 ·have hib:(i== -1)=true:=by simpa using hi
  have HR:=z_ (show hashAt size cs i=hashB size 0 [] by
   unfold hashAt nodeAt
   rw [if_neg (by omega)]
   exact if_pos hi)
  clear hi
  go_enter Tryz.func47,Tryz.ntmps47
  go_wp2_with fail
  refine (annalsref02_Hash.calls 5 size 0 none 0 [] (hashB size 0 []) w (Kd.C_nil _ _) (Nat.le_refl _) (rhash_f size 0 [] (by omega) (fun p hp=>by cases hp) (by simp) 5 (by simp))).mono ?_
  rintro e w1 ⟨v,rfl,hV,hB⟩
  have HV:=z_ hV
  have HB:=z_ hB
  clear hV hB
  go_wp2_with fail
  go_ret
  rw [HR.out]
  exact ⟨⟨_,rfl,Kd.V_mono (Kd.R_V (Kd.R_bound HV.out)) (fun k hk=>hk.2.1)⟩,HB.out⟩
 ·have hib:(i== -1)=false:=by simpa using hi
  cases ho:nodeAt cs i with
  | none=>
    have HR:=z_ (show hashAt size cs i = [] by unfold hashAt;rw [ho];exact if_neg hi)
    have HTH:=z_ (show Calls Tryz.prog 40 #[.pointer (some ⟨q,0,none⟩),.int .i64 i] w fun e w'=>e = .returned (.bool false)/\w=w' from by
     have:=rthere_calls HM.out i
     rwa [ho] at this)
    clear hi ho
    go_enter Tryz.func47,Tryz.ntmps47
    go_wp2_with fail
    refine HTH.out.mono ?_
    rintro e w' ⟨rfl,rfl⟩
    go_wp2_with fail
    go_ret
    rw [HR.out]
    exact ⟨⟨_,rfl,Kd.V_nil _ _ _ _ _⟩,Below.refl _ _⟩
  | some n=>
    have HR:=z_ (show hashAt size cs i=n.f9 by unfold hashAt;rw [ho])
    have HTH:=z_ (show Calls Tryz.prog 40 #[.pointer (some ⟨q,0,none⟩),.int .i64 i] w fun e w'=>e = .returned (.bool true)/\w=w' from by
     have:=rthere_calls HM.out i
     rwa [ho] at this)
    have HL:=z_ (HLEN.out n ho)
    obtain ⟨k,rfl,hk⟩:=nodeAt_some ho
    have HMa:=HM.out.below (below_alloc (Below.refl w.heap.size w) (.cells #[] 5))
    obtain ⟨g,m,c,A1,A2,A5,A9,c1,c2,c5,c9,hvl,hkm,hmc,b1,b2,b5,b9,m0,m1,m2,m3,m4,m5,m6,m7,m8,m9⟩:=HMa.rowAt k n hk
    have hqa:=HMa.qblk
    rw [hvl] at hqa
    obtain ⟨_,_,ka⟩:=hqa.cells
    have q1:(k:Int)<(m:Int):=by omega
    have q2:0<=(k:Int):=by omega
    have HX:=z_ (Kd.V_reads' b9).2.2
    clear hqa HMa k0 k1 k2
    have HL0:=z_ (lit0_R w)
    clear b1 b2 b5 b9 hvl hmc ho hk hkm hi m0 m1 m2 m3 m4 m5 m6 m7 m8
    go_enter Tryz.func47,Tryz.ntmps47
    go_wp2_with fail
    refine HTH.out.mono ?_
    rintro e w' ⟨rfl,rfl⟩
    go_wp2_with ((with_reducible refine gate_builtin (b:=.append) (xs:=#[.tmp 16,.tmp 24]) rfl ?_);go_must (at_builtin;refine Kd.R_append_rows (Kd.int .u8) (w0:=w) w.heap.size rfl (.tmp 16) (.tmp 24) 23 5 (.int .u8 0) 1 rfl Tryz.underlying23 (by kernel_rfl) rfl (by decide) (by omega) (.slice (some ⟨w.heap.size,0,none⟩) 0 0) [] n.f9 A9 n.f9.length c9 (fun _=>True) (fun _=>False) rfl rfl HL0.out HX.out (fun _ _ h=>h) (fun _ h=>h.elim) (fun _ _=>trivial) (below_alloc (Below.refl _ _) _) ?aS ?aL ?_;(case aS=>simp);(case aL=>have:=HL.out;simp only [List.length_nil];omega);intro v1 w1 ho hb2 hg hat;have HO:=z_ ho;have HB:=z_ hb2;clear ho hb2 hg hat))
    go_ret
    rw [HR.out]
    exact ⟨⟨_,rfl,Kd.V_mono (Kd.R_V (Kd.R_bound HO.out)) (fun k hk=>hk.2.1)⟩,HB.out⟩
end Go.Proofs.YtdeneoknjeegbaaGreatDoor.P
end
