/- Lemmas of this claim, part 13. -/
import Derived.Test.YtdeneoknjeegbaaGreatDoorPartPtreeLives11
import Derived.Test.YtdeneoknjeegbaaGreatDoorPartPtreeLives12
import Derived.Test.YtdeneoknjeegbaaGreatDoorPartPtreeLives10
set_option linter.unusedVariables false
set_option linter.unusedSimpArgs false
section
namespace Go.Proofs.YtdeneoknjeegbaaGreatDoor.P
open Go Go.RowKit YtdeneoknjeegbaaGreatDoor.Pure YtdeneoknjeegbaaGreatDoorW.PrintWords YtdeneoknjeegbaaGreatDoorW.PrintLast YtdeneoknjeegbaaGreatDoorW.PrintMore
theorem rev2_f (a b:Int):slices_Reverse_int_int.f 3 [a,b]=some [b,a]:=by
 simp [slices_Reverse_int_int.f,slices_Reverse_int_int.l0,wrap64,rd]
theorem kids_R (w:World) (base:Nat) (hb:base<=w.heap.size) (a b:Int):Kd.R (Kd.int .i64) 95 (w.alloc (.cells #[.int .i64 a,.int .i64 b] 95)) base (fun k=>k=w.heap.size) (.slice (some ⟨w.heap.size,0,none⟩) 2 2) [a,b]:=
 ⟨fun k h=>(Option.some.inj h).symm,[.int .i64 a,.int .i64 b],by
  have h2:=World.ownsRow_lit (base:=base) (e:=95) (size:=1) w #[.int .i64 a,.int .i64 b] 2 hb (by decide) (by rfl)
  exact (show (w.alloc (.cells #[.int .i64 a,.int .i64 b] 95)).ownsRow base 95 1 (.slice (some ⟨w.heap.size,0,none⟩) 2 2) 2 [.int .i64 a,.int .i64 b] from by simpa using h2),Kd.reps_scalar [a,b]⟩
theorem bcommon_le (a b:List Int) (ha:BytesOk a) (hb:BytesOk b):0<=bcommon a b/\bcommon a b<=8*(a.length:Int):=by
 obtain ⟨m,h1,h2,_,_⟩:=bcommon_spec a b ha hb
 omega
def otherB (n:Nd):List Int:=if n.f0 then keyB n.f1 else n.f5
def kidL (row:List Int) (m at_ lf:Int):Int:=if bitP row m=1 then at_ else lf
def kidR (row:List Int) (m at_ lf:Int):Int:=if bitP row m=1 then lf else at_
def PartP (w w':World) (base p:Nat) (size room:Int) (vc vf:Value) (X:Nat->Prop) (cs:Cs) (row:List Int) (m at_ lf:Int) (e:Ending):Prop:=
 ∃i er cs',PutOut (forkBad cs m row (kidL row m at_ lf) (kidR row m at_ lf)) cs room (forkOf size cs m row (kidL row m at_ lf) (kidR row m at_ lf)) i er cs'/\e = .returned (.int .i64 i)/\ArenaP w w' base p size room vc vf X cs'
set_option maxHeartbeats 8000000 in
set_option maxRecDepth 100000 in
theorem part_leaf {w:World} {base p:Nat} {size room:Int} {vc vf:Value} {X:Nat->Prop} {cs:Cs} (h:ArenaM w base p size room vc vf X cs) (Ar:Option Addr) (cr:Nat) (row:List Int) (hrow:BX w X (.slice Ar row.length cr) row) (hrl:row.length<=1000) (hro:BytesOk row) (lf at_:Int) (va:Value) (n:Nd) (D1 D2 D5 D9:Option Addr) (d1 d2 d5 d9:Nat) (same:Bool) (b1:BX w X (.slice D1 n.f1.length d1) n.f1) (b5:BX w X (.slice D5 n.f5.length d5) n.f5) (o1:BytesOk n.f1) (o5:BytesOk n.f5) (hGS:GlobS w) (h0:n.f0=true):
 Calls Tryz.prog 28 #[.pointer (some ⟨p,0,none⟩),.slice Ar row.length cr,.int .i64 lf,.agg #[va,.int .i64 at_,.bool true,.slice D1 n.f1.length d1,.slice D2 n.f2.length d2,.int .i64 n.f3,.int .i64 n.f4,.slice D5 n.f5.length d5,.int .i64 n.f6,.int .i64 n.f7,.int .i64 n.f8,.slice D9 n.f9.length d9,.bool same]] w
  fun e w'=>PartP w w' base p size room vc vf X cs row (bcommon row (otherB n)) at_ lf e:=by
 have HM:=z_ h
 have HRW:=z_ (And.intro hrow (And.intro hrl hro))
 have HX:=z_ (And.intro b1 b5)
 have HGS:=z_ hGS
 have HO:=z_ (show otherB n=keyB n.f1 from by unfold otherB;rw [h0];rfl)
 have HOO:=z_ (show BytesOk (otherB n) from by rw [HO.out];exact keyB_ok _ o1)
 have hbl:=bcommon_le row (otherB n) hro HOO.out
 obtain ⟨m,hm⟩ : ∃m,m=bcommon row (otherB n):=⟨_,rfl⟩
 rw [<-hm] at hbl
 rw [<-hm]
 have HMB:=z_ hbl
 have HME:=z_ hm
 clear h hrow hrl hro b1 b5 o1 o5 hGS hbl hm
 go_enter Tryz.func28,Tryz.ntmps28
 obtain ⟨w1,hw1⟩ : ∃w1,w1=w.alloc (.cells #[va,.int .i64 at_,.bool true,.slice D1 n.f1.length d1,.slice D2 n.f2.length d2,.int .i64 n.f3,.int .i64 n.f4,.slice D5 n.f5.length d5,.int .i64 n.f6,.int .i64 n.f7,.int .i64 n.f8,.slice D9 n.f9.length d9,.bool same] 61):=⟨_,rfl⟩
 have HB1:=z_ (show Below w.heap.size w w1 from by rw [hw1];exact below_alloc (Below.refl _ _) _)
 have HS1:=z_ (show SpB w1 w.heap.size [va,.int .i64 at_,.bool true,.slice D1 n.f1.length d1,.slice D2 n.f2.length d2,.int .i64 n.f3,.int .i64 n.f4,.slice D5 n.f5.length d5,.int .i64 n.f6,.int .i64 n.f7,.int .i64 n.f8,.slice D9 n.f9.length d9,.bool same] from by rw [hw1];exact heap_alloc_new w _)
 go_wp2_with fail
 rw [<-hw1]
 clear hw1
 obtain ⟨g1,hg1⟩ : ∃g,g=w.heap.size:=⟨_,rfl⟩
 rw [<-hg1] at HS1
 rw [<-hg1]
 have HG1:=z_ hg1
 clear hg1
 refine (key_calls D1 d1 n.f1 w1 (Kd.C_below (Kd.V_reads' HX.out.1).2.2 HB1.out) (Kd.V_reads' HX.out.1).2.1).mono ?_
 rintro e w2 ⟨v,rfl,hR,hb⟩
 obtain ⟨Ak,nk,ck,rfl⟩:=formR hR
 obtain rfl:nk=(keyB n.f1).length:=(Kd.R_reads' hR).1
 have HK2:=z_ (show Kd.C (Kd.int .u8) w2 Ak (otherB n).length (otherB n)/\(otherB n).length<=ck from by rw [HO.out];exact ⟨(Kd.R_reads' hR).2.2,(Kd.R_reads' hR).2.1⟩)
 have HB2:=z_ (below_step HB1.out hb)
 have HS2:=z_ (HS1.out.below hb)
 rw [<-HO.out]
 clear hR hb
 go_wp2_with fail
 refine (bits_Common.calls Ar cr row Ak ck (otherB n) m w2 (Kd.C_below (Kd.V_reads' HRW.out.1).2.2 HB2.out) (Kd.V_reads' HRW.out.1).2.1 HK2.out.1 HK2.out.2 (by rw [HME.out];unfold bits_Common.f;rw [if_pos (by have:=HRW.out.2.1;omega)])).mono ?_
 rintro e w3 ⟨rfl,hb⟩
 have HB3:=z_ (below_step HB2.out hb)
 have HS3:=z_ (HS2.out.below hb)
 clear hb
 obtain ⟨z0,z1,z2,z3,z4,z5,z6,z7,z8,z9,z10,z11,z12⟩:=HS3.out.cells
 go_wp2_with fail
 clear z0 z1 z2 z3 z4 z5 z6 z7 z8 z9 z10 z11 z12
 have HK4:=z_ (kids_R w3 w.heap.size HB3.out.size lf at_)
 obtain ⟨w4,hw4⟩ : ∃w4,w4=w3.alloc (.cells #[.int .i64 lf,.int .i64 at_] 95):=⟨_,rfl⟩
 have HBK:=z_ (show w4.heap[w3.heap.size]? = some (.cells #[.int .i64 lf,.int .i64 at_] 95 (0,0)) from by rw [hw4];exact heap_alloc_new w3 _)
 rw [<-hw4] at HK4
 rw [<-hw4]
 have HB4:=z_ (show Below w.heap.size w w4 from by rw [hw4];exact below_alloc HB3.out _)
 clear hw4
 obtain ⟨gk,hgk⟩ : ∃g,g=w3.heap.size:=⟨_,rfl⟩
 rw [<-hgk] at HK4 HBK
 rw [<-hgk]
 have HGK:=z_ (show w.heap.size<=gk from by rw [hgk];exact HB3.out.size)
 clear hgk
 refine (bits_Bit.calls 1 Ar cr row m (bitP row m) w4 (Kd.C_below (Kd.V_reads' HRW.out.1).2.2 HB4.out) (Kd.V_reads' HRW.out.1).2.1 (bit_f 0 row m)).mono ?_
 rintro e w5 ⟨rfl,hdr⟩
 have HB5:=z_ (below_step HB4.out hdr.below)
 have HK5:=z_ (Kd.R_below HK4.out hdr.below)
 have HBK5:=z_ (blk_below HBK.out hdr.below)
 clear hdr
 by_cases hbit:bitP row m=1
 ·have hb1:(bitP row m==1)=true:=by rw [hbit];rfl
  have HKK:=z_ (show kidL row m at_ lf=at_/\kidR row m at_ lf=lf from ⟨by unfold kidL;rw [if_pos hbit],by unfold kidR;rw [if_pos hbit]⟩)
  clear hbit
  go_wp2_with fail
  refine (slices_Reverse_int_int.calls2 3 (fun k=>k=gk) _ [lf,at_] [at_,lf] w w5 HB5.out HK5.out (rev2_f lf at_)).mono ?_
  rintro e w6 ⟨rfl,hR,hb,hk⟩
  have HB6:=z_ hb
  obtain ⟨ad0,e0,h0⟩:=Kd.at_int (Kd.R_reads' hR).2.2 0 (by omega) (by simp)
  obtain ⟨ad1,e1,h1⟩:=Kd.at_int (Kd.R_reads' hR).2.2 1 (by omega) (by simp)
  cases e0
  cases e1
  simp [rd,Addr.add] at h0 h1
  clear hR hb hk
  go_wp2_with fail
  refine (fork_calls (HM.out.below HB6.out) Ar cr row m at_ lf (Kd.V_below HRW.out.1 HB6.out) (GlobS.of HGS.out HB6.out)).mono ?_
  rintro e w7 hp
  obtain ⟨i,er,cs1,hout,rfl,hA⟩:=hp.out
  have HP:=z_ (And.intro hout (hA.start (Grew.refl _ _) HB6.out HM.out.base_le.1))
  clear hp hout hA h0 h1
  go_wp2_with fail
  go_ret
  exact ⟨i,er,cs1,by rw [HKK.out.1,HKK.out.2];exact HP.out.1,rfl,HP.out.2⟩
 ·have hb1:(bitP row m==1)=false:=by simpa using hbit
  have HKK:=z_ (show kidL row m at_ lf=lf/\kidR row m at_ lf=at_ from ⟨by unfold kidL;rw [if_neg hbit],by unfold kidR;rw [if_neg hbit]⟩)
  clear hbit
  have HB6:=HB5
  have h0:=blk_cell HBK5.out 0
  have h1:=blk_cell HBK5.out 1
  simp at h0 h1
  go_wp2_with fail
  refine (fork_calls (HM.out.below HB6.out) Ar cr row m lf at_ (Kd.V_below HRW.out.1 HB6.out) (GlobS.of HGS.out HB6.out)).mono ?_
  rintro e w7 hp
  obtain ⟨i,er,cs1,hout,rfl,hA⟩:=hp.out
  have HP:=z_ (And.intro hout (hA.start (Grew.refl _ _) HB6.out HM.out.base_le.1))
  clear hp hout hA h0 h1
  go_wp2_with fail
  go_ret
  exact ⟨i,er,cs1,by rw [HKK.out.1,HKK.out.2];exact HP.out.1,rfl,HP.out.2⟩
set_option maxHeartbeats 8000000 in
set_option maxRecDepth 100000 in
theorem part_fork {w:World} {base p:Nat} {size room:Int} {vc vf:Value} {X:Nat->Prop} {cs:Cs} (h:ArenaM w base p size room vc vf X cs) (Ar:Option Addr) (cr:Nat) (row:List Int) (hrow:BX w X (.slice Ar row.length cr) row) (hrl:row.length<=1000) (hro:BytesOk row) (lf at_:Int) (va:Value) (n:Nd) (D1 D2 D5 D9:Option Addr) (d1 d2 d5 d9:Nat) (same:Bool) (b1:BX w X (.slice D1 n.f1.length d1) n.f1) (b5:BX w X (.slice D5 n.f5.length d5) n.f5) (o1:BytesOk n.f1) (o5:BytesOk n.f5) (hGS:GlobS w) (h0:n.f0=false):
 Calls Tryz.prog 28 #[.pointer (some ⟨p,0,none⟩),.slice Ar row.length cr,.int .i64 lf,.agg #[va,.int .i64 at_,.bool false,.slice D1 n.f1.length d1,.slice D2 n.f2.length d2,.int .i64 n.f3,.int .i64 n.f4,.slice D5 n.f5.length d5,.int .i64 n.f6,.int .i64 n.f7,.int .i64 n.f8,.slice D9 n.f9.length d9,.bool same]] w
  fun e w'=>PartP w w' base p size room vc vf X cs row (bcommon row (otherB n)) at_ lf e:=by
 have HM:=z_ h
 have HRW:=z_ (And.intro hrow (And.intro hrl hro))
 have HX:=z_ (And.intro b1 b5)
 have HGS:=z_ hGS
 have HO:=z_ (show otherB n=n.f5 from by unfold otherB;rw [h0];rfl)
 have HOO:=z_ (show BytesOk (otherB n) from by rw [HO.out];exact o5)
 have hbl:=bcommon_le row (otherB n) hro HOO.out
 obtain ⟨m,hm⟩ : ∃m,m=bcommon row (otherB n):=⟨_,rfl⟩
 rw [<-hm] at hbl
 rw [<-hm]
 have HMB:=z_ hbl
 have HME:=z_ hm
 clear h hrow hrl hro b1 b5 o1 o5 hGS hbl hm
 go_enter Tryz.func28,Tryz.ntmps28
 obtain ⟨w1,hw1⟩ : ∃w1,w1=w.alloc (.cells #[va,.int .i64 at_,.bool false,.slice D1 n.f1.length d1,.slice D2 n.f2.length d2,.int .i64 n.f3,.int .i64 n.f4,.slice D5 n.f5.length d5,.int .i64 n.f6,.int .i64 n.f7,.int .i64 n.f8,.slice D9 n.f9.length d9,.bool same] 61):=⟨_,rfl⟩
 have HB1:=z_ (show Below w.heap.size w w1 from by rw [hw1];exact below_alloc (Below.refl _ _) _)
 have HS1:=z_ (show SpB w1 w.heap.size [va,.int .i64 at_,.bool false,.slice D1 n.f1.length d1,.slice D2 n.f2.length d2,.int .i64 n.f3,.int .i64 n.f4,.slice D5 n.f5.length d5,.int .i64 n.f6,.int .i64 n.f7,.int .i64 n.f8,.slice D9 n.f9.length d9,.bool same] from by rw [hw1];exact heap_alloc_new w _)
 go_wp2_with fail
 rw [<-hw1]
 clear hw1
 obtain ⟨g1,hg1⟩ : ∃g,g=w.heap.size:=⟨_,rfl⟩
 rw [<-hg1] at HS1
 rw [<-hg1]
 have HG1:=z_ hg1
 clear hg1
 obtain ⟨w2,hw2⟩ : ∃w2,w2=w1:=⟨_,rfl⟩
 obtain ⟨Ak,hAk⟩ : ∃x,x=D5:=⟨_,rfl⟩
 obtain ⟨ck,hck⟩ : ∃x,x=d5:=⟨_,rfl⟩
 have HK2:=z_ (show Kd.C (Kd.int .u8) w2 Ak (otherB n).length (otherB n)/\(otherB n).length<=ck from by rw [HO.out,hw2,hAk,hck];exact ⟨Kd.C_below (Kd.V_reads' HX.out.2).2.2 HB1.out,(Kd.V_reads' HX.out.2).2.1⟩)
 have HB2:=z_ (show Below w.heap.size w w2 from by rw [hw2];exact HB1.out)
 have HS2:=z_ (show SpB w2 g1 [va,.int .i64 at_,.bool false,.slice D1 n.f1.length d1,.slice D2 n.f2.length d2,.int .i64 n.f3,.int .i64 n.f4,.slice D5 n.f5.length d5,.int .i64 n.f6,.int .i64 n.f7,.int .i64 n.f8,.slice D9 n.f9.length d9,.bool same] from by rw [hw2];exact HS1.out)
 rw [<-HO.out,<-hAk,<-hck,<-hw2]
 clear hw2 hAk hck
 refine (bits_Common.calls Ar cr row Ak ck (otherB n) m w2 (Kd.C_below (Kd.V_reads' HRW.out.1).2.2 HB2.out) (Kd.V_reads' HRW.out.1).2.1 HK2.out.1 HK2.out.2 (by rw [HME.out];unfold bits_Common.f;rw [if_pos (by have:=HRW.out.2.1;omega)])).mono ?_
 rintro e w3 ⟨rfl,hb⟩
 have HB3:=z_ (below_step HB2.out hb)
 have HS3:=z_ (HS2.out.below hb)
 clear hb
 obtain ⟨z0,z1,z2,z3,z4,z5,z6,z7,z8,z9,z10,z11,z12⟩:=HS3.out.cells
 go_wp2_with fail
 clear z0 z1 z2 z3 z4 z5 z6 z7 z8 z9 z10 z11 z12
 have HK4:=z_ (kids_R w3 w.heap.size HB3.out.size lf at_)
 obtain ⟨w4,hw4⟩ : ∃w4,w4=w3.alloc (.cells #[.int .i64 lf,.int .i64 at_] 95):=⟨_,rfl⟩
 have HBK:=z_ (show w4.heap[w3.heap.size]? = some (.cells #[.int .i64 lf,.int .i64 at_] 95 (0,0)) from by rw [hw4];exact heap_alloc_new w3 _)
 rw [<-hw4] at HK4
 rw [<-hw4]
 have HB4:=z_ (show Below w.heap.size w w4 from by rw [hw4];exact below_alloc HB3.out _)
 clear hw4
 obtain ⟨gk,hgk⟩ : ∃g,g=w3.heap.size:=⟨_,rfl⟩
 rw [<-hgk] at HK4 HBK
 rw [<-hgk]
 have HGK:=z_ (show w.heap.size<=gk from by rw [hgk];exact HB3.out.size)
 clear hgk
 refine (bits_Bit.calls 1 Ar cr row m (bitP row m) w4 (Kd.C_below (Kd.V_reads' HRW.out.1).2.2 HB4.out) (Kd.V_reads' HRW.out.1).2.1 (bit_f 0 row m)).mono ?_
 rintro e w5 ⟨rfl,hdr⟩
 have HB5:=z_ (below_step HB4.out hdr.below)
 have HK5:=z_ (Kd.R_below HK4.out hdr.below)
 have HBK5:=z_ (blk_below HBK.out hdr.below)
 clear hdr
 by_cases hbit:bitP row m=1
 ·have hb1:(bitP row m==1)=true:=by rw [hbit];rfl
  have HKK:=z_ (show kidL row m at_ lf=at_/\kidR row m at_ lf=lf from ⟨by unfold kidL;rw [if_pos hbit],by unfold kidR;rw [if_pos hbit]⟩)
  clear hbit
  go_wp2_with fail
  refine (slices_Reverse_int_int.calls2 3 (fun k=>k=gk) _ [lf,at_] [at_,lf] w w5 HB5.out HK5.out (rev2_f lf at_)).mono ?_
  rintro e w6 ⟨rfl,hR,hb,hk⟩
  have HB6:=z_ hb
  obtain ⟨ad0,e0,h0⟩:=Kd.at_int (Kd.R_reads' hR).2.2 0 (by omega) (by simp)
  obtain ⟨ad1,e1,h1⟩:=Kd.at_int (Kd.R_reads' hR).2.2 1 (by omega) (by simp)
  cases e0
  cases e1
  simp [rd,Addr.add] at h0 h1
  clear hR hb hk
  go_wp2_with fail
  refine (fork_calls (HM.out.below HB6.out) Ar cr row m at_ lf (Kd.V_below HRW.out.1 HB6.out) (GlobS.of HGS.out HB6.out)).mono ?_
  rintro e w7 hp
  obtain ⟨i,er,cs1,hout,rfl,hA⟩:=hp.out
  have HP:=z_ (And.intro hout (hA.start (Grew.refl _ _) HB6.out HM.out.base_le.1))
  clear hp hout hA h0 h1
  go_wp2_with fail
  go_ret
  exact ⟨i,er,cs1,by rw [HKK.out.1,HKK.out.2];exact HP.out.1,rfl,HP.out.2⟩
 ·have hb1:(bitP row m==1)=false:=by simpa using hbit
  have HKK:=z_ (show kidL row m at_ lf=lf/\kidR row m at_ lf=at_ from ⟨by unfold kidL;rw [if_neg hbit],by unfold kidR;rw [if_neg hbit]⟩)
  clear hbit
  have HB6:=HB5
  have h0:=blk_cell HBK5.out 0
  have h1:=blk_cell HBK5.out 1
  simp at h0 h1
  go_wp2_with fail
  refine (fork_calls (HM.out.below HB6.out) Ar cr row m lf at_ (Kd.V_below HRW.out.1 HB6.out) (GlobS.of HGS.out HB6.out)).mono ?_
  rintro e w7 hp
  obtain ⟨i,er,cs1,hout,rfl,hA⟩:=hp.out
  have HP:=z_ (And.intro hout (hA.start (Grew.refl _ _) HB6.out HM.out.base_le.1))
  clear hp hout hA h0 h1
  go_wp2_with fail
  go_ret
  exact ⟨i,er,cs1,by rw [HKK.out.1,HKK.out.2];exact HP.out.1,rfl,HP.out.2⟩
end Go.Proofs.YtdeneoknjeegbaaGreatDoor.P
end
section
namespace Go.Proofs.YtdeneoknjeegbaaGreatDoor.P
open Go.RowKit YtdeneoknjeegbaaGreatDoor.Pure YtdeneoknjeegbaaGreatDoorW.PrintWords YtdeneoknjeegbaaGreatDoorW.PrintLast YtdeneoknjeegbaaGreatDoorW.PrintMore
def badRoot (cs:Cs) (root:Int):Prop:=root≠ -1/\nodeAt cs root=none
def badIns (id key:List Int) (since:Int):Prop:=255<id.length\/65535<key.length\/since<0
def insStart (size:Int) (row id key:List Int) (since:Int) (s:Spot) (cs:Cs):Cs×Int:=
 if s.at_≠ -1/\s.same=false then (putC (putC cs (leafNd size id key since)) (forkOf size (putC cs (leafNd size id key since)) (bcommon row (otherB s.node)) row (kidL row (bcommon row (otherB s.node)) s.at_ (lowN cs:Int)) (kidR row (bcommon row (otherB s.node)) s.at_ (lowN cs:Int))),(lowN (putC cs (leafNd size id key since)):Int))
 else (putC cs (leafNd size id key since),(lowN cs:Int))
def insAll (size:Int) (row id key:List Int) (since:Int) (s:Spot) (cs:Cs):Cs×Int:=
 insF size row s.forks.reverse (insStart size row id key since s cs).1 (insStart size row id key since s cs).2
structure InsOk (size room:Int) (row id key:List Int) (since:Int) (s:Spot) (cs:Cs):Prop where
 leaf:(usedN cs:Int)≠room
 part:s.at_≠ -1/\s.same=false->¬forkBad (putC cs (leafNd size id key since)) (bcommon row (otherB s.node)) row (kidL row (bcommon row (otherB s.node)) s.at_ (lowN cs:Int)) (kidR row (bcommon row (otherB s.node)) s.at_ (lowN cs:Int))/\(usedN (putC cs (leafNd size id key since)):Int)≠room
 forks:okF size room row s.forks.reverse (insStart size row id key since s cs).1 (insStart size row id key since s cs).2
def leavesO:Option PT->List Lf
 | none=>[]
 | some t=>t.leaves
def GoodO (size:Int):Option PT->Prop
 | none=>True
 | some t=>Good size t
theorem spot_part {size:Int} {S:PT} (g:Good size S) {id:List Int} (hid:IdOk id) (hs:SpotOk (keyB id) id S false) : ∃(m:Nat) (b:Int),bcommon (keyB id) (otherB S.node)=(m:Int)/\m<8*(keyB id).length/\bitN (keyB id) m≠b/\(b=0\/b=1)/\
 ∀x∈S.leaves,m<8*(keyB x.id).length/\(∀i,i<m->bitN (keyB id) i=bitN (keyB x.id) i)/\bitN (keyB x.id) m=b:=by
 rcases hs with ⟨n,rfl,hn⟩|⟨n,l,r,rfl,_,hb⟩
 ·have hne:id≠n.f1:=fun e=>by rw [e] at hn;simp at hn
  have hf0:n.f0=true:=by
   have:=congrArg (fun m:Nd=>m.f0) g.1
   exact this
  have ho:otherB (PT.leaf n).node=keyB n.f1:=by
   show otherB n=_
   unfold otherB
   rw [hf0]
   rfl
  have hni:IdOk n.f1:=g.2.1
  obtain ⟨m,e1,e2,e3,e4,e5⟩:=key_part hid hni hne
  have h0:=(bitN_valid (keyB n.f1) m).2 e3
  have h1:=bitN_le1 (keyB n.f1) m
  refine ⟨m,bitN (keyB n.f1) m,by rw [ho];exact e1,e2,e5,by omega,fun x hx=>?_⟩
  obtain rfl:x=lfOf n:=by simpa [PT.leaves] using hx
  exact ⟨e3,e4,rfl⟩
 ·obtain ⟨d,hd,hat⟩:=g.fork_at
  have hf0:n.f0=false:=by
   have:=congrArg (fun m:Nd=>m.f0) g.1
   exact this
  have ho:otherB (PT.fork n l r).node=n.f5:=by
   show otherB n=_
   unfold otherB
   rw [hf0]
   rfl
  have hpl:=g.pre_len
  have hro:=keyB_bytes hid
  obtain ⟨m,e1,e2,e3,e4⟩:=bcommon_spec (keyB id) n.f5 hro hpl.2.2.2
  have hmd:m<d:=by
   rcases Nat.lt_or_ge m d with h|h
   ·exact h
   ·exfalso
    have:beginsB (keyB id) n.f5 n.f4=true:=by
     unfold beginsB
     split
     ·rfl
     ·rw [if_pos (by omega)]
      exact decide_eq_true (by omega)
    rw [this] at hb
    cases hb
  have hall : ∀x∈(PT.fork n l r).leaves,(∀i,i<d->bitN (keyB x.id) i=bitN n.f5 i)/\d<8*(keyB x.id).length:=fun x hx=>by
   obtain ⟨b,ha,_⟩:=hat x hx
   exact ⟨fun i hi=>ha.bitsOf (keyB_bytes (g.leaf_ok x hx).1) i hi,ha.lt⟩
  obtain ⟨x0,hx0⟩:=(PT.fork n l r).leaves_ne
  have hx0i:=(g.leaf_ok x0 hx0).1
  have hv:m<8*(keyB id).length:=key_valid hid hx0i m (fun i hi=>by rw [(e3 i hi).1,(hall x0 hx0).1 i (by omega)]) (by have:=(hall x0 hx0).2;omega)
  have hv0:=(bitN_valid (keyB id) m).2 hv
  have hp0:0<=bitN n.f5 m:=by
   rw [<-(hall x0 hx0).1 m hmd]
   exact (bitN_valid (keyB x0.id) m).2 (by have:=(hall x0 hx0).2;omega)
  have hp1:=bitN_le1 n.f5 m
  refine ⟨m,bitN n.f5 m,by rw [ho];exact e1,hv,by rcases e4 with h|h;omega;exact h,by omega,fun x hx=>⟨by have:=(hall x hx).2;omega,fun i hi=>?_,(hall x hx).1 m hmd⟩⟩
  rw [(e3 i hi).1,(hall x hx).1 i (by omega)]
theorem Good.leafOf {size:Int} {x:Lf} (h:LfOk x):Good size (.leaf (leafNd size x.id x.key x.since)):=⟨rfl,h⟩
theorem bitP_key {id:List Int} (hid:IdOk id) (m:Nat):bitP (keyB id) (m:Int)=bitN (keyB id) m:=bitP_eq _ (keyB_bytes hid) m
theorem insert_tree {size room:Int} {cs:Cs} {root:Int} {t:Option PT} (hs:IsO cs root t) (hg:GoodO size t) {x:Lf} (hx:LfOk x) (hroom:((findO (keyB x.id) x.id root t).needs:Int)<=room-(usedN cs:Int)):
 InsOk size room (keyB x.id) x.id x.key x.since (findO (keyB x.id) x.id root t) cs/\∃t',IsT (insAll size (keyB x.id) x.id x.key x.since (findO (keyB x.id) x.id root t) cs).1 (insAll size (keyB x.id) x.id x.key x.since (findO (keyB x.id) x.id root t) cs).2 t'/\Good size t'/\
  Ext cs (insAll size (keyB x.id) x.id x.key x.since (findO (keyB x.id) x.id root t) cs).1/\usedN (insAll size (keyB x.id) x.id x.key x.since (findO (keyB x.id) x.id root t) cs).1=usedN cs+(findO (keyB x.id) x.id root t).needs/\
  ∃A S B N,leavesO t=A++S++B/\t'.leaves=A++N++B/\(∀y∈A++B,y.id≠x.id)/\(((∀y∈S,y.id=x.id)/\N = [x])\/((∀y∈S,y.id≠x.id)/\(N=x :: S\/N=S++[x]))):=by
 obtain ⟨c0,hc0⟩ : ∃c0,c0=putC cs (leafNd size x.id x.key x.since):=⟨_,rfl⟩
 have hn0:nodeAt c0 (lowN cs:Int)=some (leafNd size x.id x.key x.since):=by rw [hc0];exact nodeAt_put _ _
 have hx0:Ext cs c0:=by rw [hc0];exact ext_put _ _
 have hu0:usedN c0=usedN cs+1:=by rw [hc0];exact putC_used _ _
 have il:IsT c0 (lowN cs:Int) (.leaf (leafNd size x.id x.key x.since)):=⟨hn0,rfl⟩
 have gl:Good size (.leaf (leafNd size x.id x.key x.since)):=Good.leafOf hx
 have ll:(PT.leaf (leafNd size x.id x.key x.since)).leaves = [x]:=rfl
 cases t with
 | none=>
   have hf:findO (keyB x.id) x.id root none=⟨[],-1,z59,false⟩:=rfl
   rw [hf] at hroom ⊢
   have hst:insStart size (keyB x.id) x.id x.key x.since ⟨[],-1,z59,false⟩ cs=(c0,(lowN cs:Int)):=by
    unfold insStart
    rw [if_neg (fun h=>h.1 rfl),hc0]
   have hall:insAll size (keyB x.id) x.id x.key x.since ⟨[],-1,z59,false⟩ cs=(c0,(lowN cs:Int)):=by
    unfold insAll
    rw [hst]
    rfl
   rw [hall]
   have hnd:(Spot.needs ⟨[],-1,z59,false⟩)=1:=by
    unfold Spot.needs
    rw [if_neg (fun h=>h.1 rfl)]
    rfl
   rw [hnd] at hroom ⊢
   refine ⟨⟨by omega,fun h=>absurd rfl h.1,trivial⟩,_,il,gl,hx0,hu0,[],[],[],[x],rfl,ll,by simp,.inl ⟨by simp,rfl⟩⟩
 | some t=>
   obtain ⟨S,A,B,e1,e2,e3,e4,e5,e6,e7⟩:=ins_down (id:=x.id) hx.1 t root hs hg
   obtain ⟨s,hsp⟩ : ∃s,s=findT (keyB x.id) x.id root t:=⟨_,rfl⟩
   have hf:findO (keyB x.id) x.id root (some t)=s:=hsp.symm
   rw [hf] at hroom ⊢
   rw [<-hsp] at e1 e3 e4 e7
   have hat:s.at_≠ -1:=by
    have:=nodeAt_lt (show (nodeAt cs s.at_).isSome=true by rw [e1.at];rfl)
    omega
   cases hsame:s.same with
   | true=>
     rw [hsame] at e4
     have hst:insStart size (keyB x.id) x.id x.key x.since s cs=(c0,(lowN cs:Int)):=by
      unfold insStart
      rw [if_neg (fun h=>by rw [hsame] at h;cases h.2),hc0]
     have hnd:s.needs=s.forks.length+1:=by
      unfold Spot.needs
      rw [if_neg (fun h=>by rw [hsame] at h;cases h.2)]
     rw [hnd] at hroom ⊢
     unfold insAll
     rw [hst]
     obtain ⟨o1,t',i1,g1,x1,u1,l1⟩:=e7 room c0 (lowN cs:Int) _ hx0 il gl (fun y hy=>by rw [ll] at hy;obtain rfl:y=x:=(by simpa using hy);exact .inl rfl) (by omega)
     obtain ⟨n,rfl,hn⟩ : ∃n,S = .leaf n/\true=decide (n.f1=x.id):=by
      rcases e4 with h|⟨n,l,r,_,h,_⟩
      ·exact h
      ·cases h
     refine ⟨⟨by omega,(fun h=>by rw [hsame] at h;cases h.2),(by rw [hst];exact o1)⟩,t',i1,g1,hx0.trans x1,by rw [u1];omega,A,(PT.leaf n).leaves,B,[x],e5,by rw [l1,ll],e6,.inl ⟨fun y hy=>?_,rfl⟩⟩
     obtain rfl:y=lfOf n:=by simpa [PT.leaves] using hy
     exact of_decide_eq_true hn.symm
   | false=>
     rw [hsame] at e4
     obtain ⟨m,b,m1,m2,m3,m4,m5⟩:=spot_part e2 hx.1 e4
     rw [e3] at m1
     have hSne : ∀y∈S.leaves,y.id≠x.id:=fun y hy e=>by
      have:=(m5 y hy).2.2
      rw [e] at this
      exact m3 this
     have iS:IsT c0 s.at_ S:=e1.ext hx0
     obtain ⟨f,hfk⟩ : ∃f,f=forkOf size c0 (m:Int) (keyB x.id) (kidL (keyB x.id) (m:Int) s.at_ (lowN cs:Int)) (kidR (keyB x.id) (m:Int) s.at_ (lowN cs:Int)):=⟨_,rfl⟩
     have hst:insStart size (keyB x.id) x.id x.key x.since s cs=(putC c0 f,(lowN c0:Int)):=by
      unfold insStart
      rw [if_pos ⟨hat,hsame⟩,m1,<-hc0,<-hfk]
     have hnd:s.needs=s.forks.length+1+1:=by
      unfold Spot.needs
      rw [if_pos ⟨hat,hsame⟩]
     rw [hnd] at hroom ⊢
     have hrow:BytesOk (keyB x.id):=keyB_bytes hx.1
     have hrl:=keyB_length hx.1
     have hrl2:=hx.1.2
     have hv0:=(bitN_valid (keyB x.id) m).2 m2
     have hv1:=bitN_le1 (keyB x.id) m
     have hrow_at : ∀c,bitN (keyB x.id) m=c->At m (firstB (keyB x.id) (m:Int)) c (keyB x.id):=fun c hc=>⟨m2,rfl,hc⟩
     have hS_at : ∀y∈S.leaves,At m (firstB (keyB x.id) (m:Int)) b (keyB y.id):=fun y hy=>by
      obtain ⟨k1,k2,k3⟩:=m5 y hy
      refine ⟨k1,firstB_congr (keyB_bytes (e2.leaf_ok y hy).1) hrow (by unfold keyB;simp) (by unfold keyB;simp) m (by omega) (by omega) (fun i hi=>(k2 i hi).symm),k3⟩
     have hbad : ¬forkBad c0 (m:Int) (keyB x.id) (kidL (keyB x.id) (m:Int) s.at_ (lowN cs:Int)) (kidR (keyB x.id) (m:Int) s.at_ (lowN cs:Int)):=by
      rintro (k|k|k|k|k)
      ·omega
      ·omega
      ·omega
      ·unfold kidL at k
       split at k
       ·rw [iS.at] at k;cases k
       ·rw [il.at] at k;cases k
      ·unfold kidR at k
       split at k
       ·rw [il.at] at k;cases k
       ·rw [iS.at] at k;cases k
     obtain ⟨t1,N,i1,g1,l1,hN⟩ : ∃t1 N,IsT (putC c0 f) (lowN c0:Int) t1/\Good size t1/\t1.leaves=N/\(N=x :: S.leaves\/N=S.leaves++[x]):=by
      by_cases hbit:bitP (keyB x.id) (m:Int)=1
      ·have hb1:bitN (keyB x.id) m=1:=by rw [<-bitP_key hx.1];exact hbit
       obtain rfl:b=0:=by omega
       rw [show kidL (keyB x.id) (m:Int) s.at_ (lowN cs:Int)=s.at_ by unfold kidL;rw [if_pos hbit],show kidR (keyB x.id) (m:Int) s.at_ (lowN cs:Int)=(lowN cs:Int) by unfold kidR;rw [if_pos hbit]] at hfk
       rw [hfk]
       obtain ⟨nn,ii,gg⟩:=fork_tree (size:=size) (cs:=c0) (d:=m) (p:=keyB x.id) hrow iS il e2 gl hS_at (fun y hy=>by rw [ll] at hy;obtain rfl:y=x:=(by simpa using hy);exact hrow_at 1 hb1)
       exact ⟨_,_,ii,gg,rfl,.inr rfl⟩
      ·have hb0:bitN (keyB x.id) m=0:=by rw [bitP_key hx.1] at hbit;omega
       obtain rfl:b=1:=by omega
       rw [show kidL (keyB x.id) (m:Int) s.at_ (lowN cs:Int)=(lowN cs:Int) by unfold kidL;rw [if_neg hbit],show kidR (keyB x.id) (m:Int) s.at_ (lowN cs:Int)=s.at_ by unfold kidR;rw [if_neg hbit]] at hfk
       rw [hfk]
       obtain ⟨nn,ii,gg⟩:=fork_tree (size:=size) (cs:=c0) (d:=m) (p:=keyB x.id) hrow il iS gl e2 (fun y hy=>by rw [ll] at hy;obtain rfl:y=x:=(by simpa using hy);exact hrow_at 0 hb0) hS_at
       exact ⟨_,_,ii,gg,rfl,.inl rfl⟩
     have hu1:usedN (putC c0 f)=usedN c0+1:=putC_used _ _
     obtain ⟨o1,t',i2,g2,x2,u2,l2⟩:=e7 room (putC c0 f) (lowN c0:Int) t1 (hx0.trans (ext_put _ _)) i1 g1 (fun y hy=>by
      rw [l1] at hy
      rcases hN with rfl|rfl
      ·rcases List.mem_cons.1 hy with rfl|h
       ·exact .inl rfl
       ·exact .inr h
      ·rcases List.mem_append.1 hy with h|h
       ·exact .inr h
       ·obtain rfl:y=x:=by simpa using h
        exact .inl rfl) (by omega)
     unfold insAll
     rw [hst]
     refine ⟨⟨by omega,fun _=>?_,by rw [hst];exact o1⟩,t',i2,g2,hx0.trans ((ext_put _ _).trans x2),by rw [u2];omega,A,S.leaves,B,N,e5,by rw [l2,l1],e6,.inr ⟨hSne,hN⟩⟩
     rw [m1,<-hc0]
     exact ⟨hbad,by omega⟩
end Go.Proofs.YtdeneoknjeegbaaGreatDoor.P
end
section
namespace Go.Proofs.YtdeneoknjeegbaaGreatDoor.P
open Go Go.RowKit YtdeneoknjeegbaaGreatDoor.Pure YtdeneoknjeegbaaGreatDoorW.PrintWords YtdeneoknjeegbaaGreatDoorW.PrintLast YtdeneoknjeegbaaGreatDoorW.PrintMore
theorem BX.some {w:World} {X:Nat->Prop} {v:Value} {l:List Int} (h:BX w X v l) (h0:0<l.length) : ∃(a:Addr) (c:Nat),v = .slice (some a) l.length c:=by
 obtain ⟨A,c,rfl⟩:=Kd.V_slice h
 cases A with
 | some a=>exact ⟨a,c,rfl⟩
 | none=>
   obtain ⟨ad,e,_⟩:=(Kd.reads_of_C (d:=(0:Int)) (Kd.V_reads' h).2.2).2.2 h0
   cases e
set_option maxRecDepth 100000 in
theorem hash_nil {w:World} {base p:Nat} {size room:Int} {vc vf:Value} {X:Nat->Prop} {cs:Cs} (h:ArenaM w base p size room vc vf X cs) (i:Int) (hi:i≠ -1) (ho:nodeAt cs i=none):
 Calls Tryz.prog 19 #[.pointer (some ⟨p,0,none⟩),.int .i64 i] w fun e w'=>e = .returned (.slice none 0 0)/\w=w':=by
 have HBk:=z_ (blkA h)
 have HS:=z_ (show size≠0 by have:=h.hs;omega)
 have HM:=z_ h
 have HO:=z_ ho
 have hib:(i== -1)=false:=by simpa using hi
 clear h hi ho
 go_enter Tryz.func19,Tryz.ntmps19
 go_wp2_with fail
 refine (none_calls HBk.out HS.out).mono ?_
 rintro e w' ⟨rfl,rfl⟩
 go_wp2_with fail
 refine (atA_calls HM.out i).mono ?_
 rintro e w' ⟨⟨v,rfl,hv⟩,rfl⟩
 rw [HO.out] at hv
 obtain rfl:v = .pointer none:=hv
 go_wp2_with fail
 go_ret
 exact ⟨rfl,rfl⟩
structure InsPre (w:World) (base p:Nat) (size room:Int) (vc vf:Value) (X:Nat->Prop) (cs:Cs) (A1 A2:Option Addr) (c1 c2:Nat) (id key:List Int):Prop where
 m:ArenaM w base p size room vc vf X cs
 ok:CsOk cs
 hash : ∀n,some n∈cs->0<n.f9.length
 bid:BX w X (.slice A1 id.length c1) id
 bkey:BX w X (.slice A2 key.length c2) key
 ido:BytesOk id
 keyo:BytesOk key
 idl:id.length<=9223372036854775807
 keyl:key.length<=9223372036854775807
 g : ∀W,Below base w W->GlobS W
def InsP (w w':World) (base p:Nat) (size room:Int) (vc vf:Value) (X:Nat->Prop) (cs':Cs) (i er:Int) (e:Ending):Prop:=e = .returned (.tuple #[.int .i64 i,.int .i64 er])/\ArenaP w w' base p size room vc vf X cs'
def postM (P:Program) (fn:Func) (R:Ending->World->Prop):Exit->Act->World->Prop
 | .normal,a,w=>LeavesInM Fence.wide 5 P fn a.tmps R a.defers .returning w
 | .ret,a,w=>LeavesInM Fence.wide 5 P fn a.tmps R a.defers .returning w
 | _,_,_=>False
theorem calls_of_postM {P:Program} {f:FuncId} {fn:Func} {c:Code} {args:Array Value} {w:World} {R:Ending->World->Prop} (hf:P.funcs[f]? = some fn) (hb:fn.body=some c)
 (h:c.wp P (postM P fn R) { tmps:=args++Array.replicate (fn.ntmps-args.size) undef,defers:=[] } w):Calls P f args w R:=
 (callsIn_wide (n:=5)).1 (callsIn_of_wp_marks hf hb trivial (wpIn_mono (wpIn_wide.2 h) (fun e a w hp=>by
  cases e with
  | normal=>exact hp
  | ret=>exact hp
  | exit id=>exact hp.elim
  | goto t=>exact hp.elim
  | panic c=>exact hp.elim
  | outgrown=>exact hp.elim)) rfl)
set_option maxHeartbeats 8000000 in
set_option maxRecDepth 100000 in
theorem insert_root {w:World} {base p:Nat} {size room:Int} {vc vf:Value} {X:Nat->Prop} {cs:Cs} {A1 A2:Option Addr} {c1 c2:Nat} {id key:List Int} (h:InsPre w base p size room vc vf X cs A1 A2 c1 c2 id key) (root since:Int) (hr:root≠ -1) (hb:nodeAt cs root=none):
 Calls Tryz.prog 9 #[.pointer (some ⟨p,0,none⟩),.int .i64 root,.slice A1 id.length c1,.slice A2 key.length c2,.int .i64 since] w fun e w'=>InsP w w' base p size room vc vf X cs 0 1 e:=by
 have H:=z_ h
 have HSZ:=z_ (show size≠0 by have:=h.m.hs;omega)
 have hsz:(size==0)=false:=by simpa using HSZ.out
 clear h
 have HR:=z_ (And.intro hr hb)
 have hr1:(root != -1)=true:=by simpa using hr
 have hnil : ∀W:World,(binOp .eql 23 (.slice none 0 0) (.slice none 0 0)).run Tryz.prog W = .ok (.bool true) W:=fun _=>by kernel_rfl
 clear hr hb
 go_enter Tryz.func9,Tryz.ntmps9
 obtain ⟨w1,hw1⟩ : ∃w1,w1=w.alloc (.cells #[.pointer (some ⟨p,0,none⟩)] 25):=⟨_,rfl⟩
 have HB1:=z_ (show Below w.heap.size w w1 from by rw [hw1];exact below_alloc (Below.refl _ _) _)
 have HBX1:=z_ (show w1.heap[w.heap.size]? = some (.cells #[.pointer (some ⟨p,0,none⟩)] 25 (0,0)) from by rw [hw1];exact heap_alloc_new w _)
 go_wp2_with fail
 rw [<-hw1]
 clear hw1
 obtain ⟨g0,hg0⟩ : ∃g,g=w.heap.size:=⟨_,rfl⟩
 rw [<-hg0] at HBX1
 rw [<-hg0]
 have HG0:=z_ hg0
 clear hg0
 have k0:=blk_cell HBX1.out 0
 simp at k0
 refine (size_calls (blkA (H.out.m.below HB1.out)) HSZ.out).mono ?_
 rintro e w' ⟨rfl,rfl⟩
 go_wp2_with fail
 refine (hash_nil (H.out.m.below HB1.out) root HR.out.1 HR.out.2).mono ?_
 rintro e w' ⟨rfl,rfl⟩
 go_wp2_with fail
 go_ret2
 exact ⟨rfl,ArenaP.of_below H.out.m HB1.out⟩
set_option maxHeartbeats 16000000 in
set_option maxRecDepth 100000 in
theorem insert_bad {w:World} {base p:Nat} {size room:Int} {vc vf:Value} {X:Nat->Prop} {cs:Cs} {A1 A2:Option Addr} {c1 c2:Nat} {id key:List Int} (h:InsPre w base p size room vc vf X cs A1 A2 c1 c2 id key) (root since:Int) (hroot:root = -1\/(root≠ -1/\∃n,nodeAt cs root=some n)) (hbad:badIns id key since):
 Calls Tryz.prog 9 #[.pointer (some ⟨p,0,none⟩),.int .i64 root,.slice A1 id.length c1,.slice A2 key.length c2,.int .i64 since] w fun e w'=>InsP w w' base p size room vc vf X cs 0 1 e:=by
 have H:=z_ h
 have HSZ:=z_ (show size≠0 by have:=h.m.hs;omega)
 have hsz:(size==0)=false:=by simpa using HSZ.out
 clear h
 have HBAD:=z_ hbad
 clear hbad
 rcases hroot with hr|⟨hr,hnd⟩
 all_goals
  first
  | replace hr:root = -1:=hr
    have hr1:(root != -1)=false:=by simpa using hr
    clear hr
    go_enter Tryz.func9,Tryz.ntmps9
    obtain ⟨w1,hw1⟩ : ∃w1,w1=w.alloc (.cells #[.pointer (some ⟨p,0,none⟩)] 25):=⟨_,rfl⟩
    have HB1:=z_ (show Below w.heap.size w w1 from by rw [hw1];exact below_alloc (Below.refl _ _) _)
    have HBX1:=z_ (show w1.heap[w.heap.size]? = some (.cells #[.pointer (some ⟨p,0,none⟩)] 25 (0,0)) from by rw [hw1];exact heap_alloc_new w _)
    go_wp2_with fail
    rw [<-hw1]
    clear hw1
    obtain ⟨g0,hg0⟩ : ∃g,g=w.heap.size:=⟨_,rfl⟩
    rw [<-hg0] at HBX1
    rw [<-hg0]
    have HG0:=z_ hg0
    clear hg0
    have k0:=blk_cell HBX1.out 0
    simp at k0
    refine (size_calls (blkA (H.out.m.below HB1.out)) HSZ.out).mono ?_
    rintro e w' ⟨rfl,rfl⟩
    obtain ⟨w2,hw2⟩ : ∃w2,w2=w1:=⟨_,rfl⟩
    have HB2:=z_ (show Below w.heap.size w w2 from by rw [hw2];exact HB1.out)
    have HBX2:=z_ (show w2.heap[g0]? = some (.cells #[.pointer (some ⟨p,0,none⟩)] 25 (0,0)) from by rw [hw2];exact HBX1.out)
    rw [<-hw2]
    rw [<-hw2] at k0
    clear hw2
  | replace hr:root≠ -1:=hr
    have hr1:(root != -1)=true:=by simpa using hr
    have HND:=z_ (show ∃n,nodeAt cs root=some n from hnd)
    clear hr hnd
    go_enter Tryz.func9,Tryz.ntmps9
    obtain ⟨w1,hw1⟩ : ∃w1,w1=w.alloc (.cells #[.pointer (some ⟨p,0,none⟩)] 25):=⟨_,rfl⟩
    have HB1:=z_ (show Below w.heap.size w w1 from by rw [hw1];exact below_alloc (Below.refl _ _) _)
    have HBX1:=z_ (show w1.heap[w.heap.size]? = some (.cells #[.pointer (some ⟨p,0,none⟩)] 25 (0,0)) from by rw [hw1];exact heap_alloc_new w _)
    go_wp2_with fail
    rw [<-hw1]
    clear hw1
    obtain ⟨g0,hg0⟩ : ∃g,g=w.heap.size:=⟨_,rfl⟩
    rw [<-hg0] at HBX1
    rw [<-hg0]
    have HG0:=z_ hg0
    clear hg0
    have k0:=blk_cell HBX1.out 0
    simp at k0
    refine (size_calls (blkA (H.out.m.below HB1.out)) HSZ.out).mono ?_
    rintro e w' ⟨rfl,rfl⟩
    go_wp2_with fail
    refine (hashA_calls (H.out.m.below HB1.out) root (fun n hn=>(H.out.ok.at root n hn).1.2.2.2) (H.out.g _ (HB1.out.mono H.out.m.base_le.1))).mono ?_
    rintro e w2 ⟨⟨v,rfl,hv⟩,hb⟩
    obtain ⟨ah,ch,rfl⟩:=hv.some (by
     obtain ⟨n,hn⟩:=HND.out
     unfold hashAt
     rw [hn]
     exact H.out.hash n (nodeAt_mem hn))
    obtain ⟨nh,hnh⟩ : ∃n,n=(hashAt size cs root).length:=⟨_,rfl⟩
    rw [<-hnh]
    have hnil : ∀W:World,(binOp .eql 23 (.slice (some ah) nh ch) (.slice none 0 0)).run Tryz.prog W = .ok (.bool false) W:=fun _=>by kernel_rfl
    have HB2:=z_ (below_step HB1.out hb)
    have HBX2:=z_ (blk_below HBX1.out hb)
    clear hnh hv hb k0
    have k0:=blk_cell HBX2.out 0
    simp at k0
 all_goals
  by_cases h1:255<id.length
  ·have d1:decide ((255:Int)<(id.length:Int))=true:=decide_eq_true (by omega)
   clear h1
   go_wp2_with fail
   go_ret2
   exact ⟨rfl,ArenaP.of_below H.out.m HB2.out⟩
  ·have d1:decide ((255:Int)<(id.length:Int))=false:=decide_eq_false (by omega)
   by_cases h2:65535<key.length
   ·have d2:decide ((65535:Int)<(key.length:Int))=true:=decide_eq_true (by omega)
    clear h1 h2
    go_wp2_with fail
    go_ret2
    exact ⟨rfl,ArenaP.of_below H.out.m HB2.out⟩
   ·have d2:decide ((65535:Int)<(key.length:Int))=false:=decide_eq_false (by omega)
    have d3:decide (since<0)=true:=decide_eq_true ((HBAD.out.resolve_left h1).resolve_left h2)
    clear h1 h2
    go_wp2_with fail
    go_ret2
    exact ⟨rfl,ArenaP.of_below H.out.m HB2.out⟩
def ins_T8:Bool×List (List Nat×List Nat):=(true,[([],[]),([0],[0]),([],[]),([2,1],[2]),([1,3],[1,3])])
def ins_B8:List Nat:=[0,1,0,7,15]
theorem ins_tab8:rtab .any (opsOf Tryz.f9 8)=ins_T8:=by kernel_rfl
theorem ins_bits8:waitsOk ins_T8.2 ins_B8=true:=by kernel_rfl
set_option maxHeartbeats 16000000 in
set_option maxRecDepth 100000 in
theorem insert_full {w:World} {base p:Nat} {size room:Int} {vc vf:Value} {X:Nat->Prop} {cs:Cs} {A1 A2:Option Addr} {c1 c2:Nat} {id key:List Int} (h:InsPre w base p size room vc vf X cs A1 A2 c1 c2 id key) (root since:Int) (hroot:root = -1\/(root≠ -1/\∃n,nodeAt cs root=some n)) (hbad : ¬badIns id key since) (hos : ∀n,some n∈cs->BytesOk n.f1/\BytesOk n.f5) (t0:Option PT) (ht0:IsO cs root t0) (hh:heightO t0<=100000) (hfull:room-(usedN cs:Int)<((findO (keyB id) id root t0).needs:Int)):
 Calls Tryz.prog 9 #[.pointer (some ⟨p,0,none⟩),.int .i64 root,.slice A1 id.length c1,.slice A2 key.length c2,.int .i64 since] w fun e w'=>InsP w w' base p size room vc vf X cs 0 4 e:=by
 have H:=z_ h
 have HSZ:=z_ (show size≠0 by have:=h.m.hs;omega)
 have hsz:(size==0)=false:=by simpa using HSZ.out
 clear h
 have HFU:=z_ hfull
 clear hfull
 have HOS:=z_ hos
 have HT0:=z_ (And.intro ht0 hh)
 have d1:decide ((255:Int)<(id.length:Int))=false:=decide_eq_false (fun h=>hbad (.inl (by omega)))
 have d2:decide ((65535:Int)<(key.length:Int))=false:=decide_eq_false (fun h=>hbad (.inr (.inl (by omega))))
 have d3:decide (since<0)=false:=decide_eq_false (fun h=>hbad (.inr (.inr h)))
 have HNB:=z_ hbad
 clear hos ht0 hh hbad
 rcases hroot with hr|⟨hr,hnd⟩
 all_goals
  first
  | replace hr:root = -1:=hr
    have hr1:(root != -1)=false:=by simpa using hr
    clear hr
    go_enter Tryz.func9,Tryz.ntmps9
    obtain ⟨w1,hw1⟩ : ∃w1,w1=w.alloc (.cells #[.pointer (some ⟨p,0,none⟩)] 25):=⟨_,rfl⟩
    have HB1:=z_ (show Below w.heap.size w w1 from by rw [hw1];exact below_alloc (Below.refl _ _) _)
    have HBX1:=z_ (show w1.heap[w.heap.size]? = some (.cells #[.pointer (some ⟨p,0,none⟩)] 25 (0,0)) from by rw [hw1];exact heap_alloc_new w _)
    go_wp2_with fail
    rw [<-hw1]
    clear hw1
    obtain ⟨g0,hg0⟩ : ∃g,g=w.heap.size:=⟨_,rfl⟩
    rw [<-hg0] at HBX1
    rw [<-hg0]
    have HG0:=z_ hg0
    clear hg0
    have k0:=blk_cell HBX1.out 0
    simp at k0
    refine (size_calls (blkA (H.out.m.below HB1.out)) HSZ.out).mono ?_
    rintro e w' ⟨rfl,rfl⟩
    obtain ⟨w2,hw2⟩ : ∃w2,w2=w1:=⟨_,rfl⟩
    have HB2:=z_ (show Below w.heap.size w w2 from by rw [hw2];exact HB1.out)
    have HBX2:=z_ (show w2.heap[g0]? = some (.cells #[.pointer (some ⟨p,0,none⟩)] 25 (0,0)) from by rw [hw2];exact HBX1.out)
    rw [<-hw2]
    rw [<-hw2] at k0
    clear hw2
  | replace hr:root≠ -1:=hr
    have hr1:(root != -1)=true:=by simpa using hr
    have HND:=z_ (show ∃n,nodeAt cs root=some n from hnd)
    clear hr hnd
    go_enter Tryz.func9,Tryz.ntmps9
    obtain ⟨w1,hw1⟩ : ∃w1,w1=w.alloc (.cells #[.pointer (some ⟨p,0,none⟩)] 25):=⟨_,rfl⟩
    have HB1:=z_ (show Below w.heap.size w w1 from by rw [hw1];exact below_alloc (Below.refl _ _) _)
    have HBX1:=z_ (show w1.heap[w.heap.size]? = some (.cells #[.pointer (some ⟨p,0,none⟩)] 25 (0,0)) from by rw [hw1];exact heap_alloc_new w _)
    go_wp2_with fail
    rw [<-hw1]
    clear hw1
    obtain ⟨g0,hg0⟩ : ∃g,g=w.heap.size:=⟨_,rfl⟩
    rw [<-hg0] at HBX1
    rw [<-hg0]
    have HG0:=z_ hg0
    clear hg0
    have k0:=blk_cell HBX1.out 0
    simp at k0
    refine (size_calls (blkA (H.out.m.below HB1.out)) HSZ.out).mono ?_
    rintro e w' ⟨rfl,rfl⟩
    go_wp2_with fail
    refine (hashA_calls (H.out.m.below HB1.out) root (fun n hn=>(H.out.ok.at root n hn).1.2.2.2) (H.out.g _ (HB1.out.mono H.out.m.base_le.1))).mono ?_
    rintro e w2 ⟨⟨v,rfl,hv⟩,hb⟩
    obtain ⟨ah,ch,rfl⟩:=hv.some (by
     obtain ⟨n,hn⟩:=HND.out
     unfold hashAt
     rw [hn]
     exact H.out.hash n (nodeAt_mem hn))
    obtain ⟨nh,hnh⟩ : ∃n,n=(hashAt size cs root).length:=⟨_,rfl⟩
    rw [<-hnh]
    have hnil : ∀W:World,(binOp .eql 23 (.slice (some ah) nh ch) (.slice none 0 0)).run Tryz.prog W = .ok (.bool false) W:=fun _=>by kernel_rfl
    have HB2:=z_ (below_step HB1.out hb)
    have HBX2:=z_ (blk_below HBX1.out hb)
    clear hnh hv hb k0
    have k0:=blk_cell HBX2.out 0
    simp at k0
 all_goals
  go_wp2_with fail
  clear d1 d2 d3 k0
  refine (find_calls (H.out.m.below HB2.out) H.out.ok root A1 c1 id (Kd.C_below (Kd.V_reads' H.out.bid).2.2 HB2.out) (Kd.V_reads' H.out.bid).2.1 H.out.ido (fun n hn=>(HOS.out n hn).1) t0 HT0.out.1 HT0.out.2).mono ?_
  rintro e w3 ⟨⟨va,Z,E1,E2,E5,E9,e1,e2,e5,e9,rfl,hF,hZ,x1,x2,x5,x9⟩,hb⟩
  obtain ⟨s,hs⟩ : ∃s,s=findO (keyB id) id root t0:=⟨_,rfl⟩
  rw [<-hs] at hF x1 x2 x5 x9
  rw [<-hs]
  obtain ⟨Af,nf,cf,rfl⟩ : ∃Af nf cf,va = .slice Af nf cf:=by
   obtain ⟨rows,hR,_⟩:=hF.mem
   exact formR hR
  have HF:=z_ hF
  have HS:=z_ hs
  have HZ:=z_ hZ
  have HX:=z_ (And.intro x1 x5)
  have HB3:=z_ (below_step HB2.out hb)
  have HBX3:=z_ (blk_below HBX2.out hb)
  have HW2:=z_ hb.size
  have HNF:=z_ (show nf=s.forks.length/\nf<=100000 from by
   obtain ⟨rows,hR,hl,_⟩:=hF.mem
   have h1:=(Kd.R_reads' hR).1
   have h2:=(way_o cs (keyB id) id root t0 HT0.out.1).2.2.1
   rw [<-hs] at h2
   have h3:=HT0.out.2
   omega)
  clear hs hF hZ x1 x2 x5 x9 hb
  obtain ⟨w4,hw4⟩ : ∃w4,w4=w3.alloc (.cells #[.slice Af nf cf,.int .i64 s.at_,.bool s.node.f0,.slice E1 s.node.f1.length e1,.slice E2 s.node.f2.length e2,.int .i64 s.node.f3,.int .i64 s.node.f4,.slice E5 s.node.f5.length e5,.int .i64 s.node.f6,.int .i64 s.node.f7,.int .i64 s.node.f8,.slice E9 s.node.f9.length e9,.bool s.same] 61):=⟨_,rfl⟩
  have HB43:=z_ (show Below w3.heap.size w3 w4 from by rw [hw4];exact below_alloc (Below.refl _ _) _)
  have HSP4:=z_ (show SpB w4 w3.heap.size [.slice Af nf cf,.int .i64 s.at_,.bool s.node.f0,.slice E1 s.node.f1.length e1,.slice E2 s.node.f2.length e2,.int .i64 s.node.f3,.int .i64 s.node.f4,.slice E5 s.node.f5.length e5,.int .i64 s.node.f6,.int .i64 s.node.f7,.int .i64 s.node.f8,.slice E9 s.node.f9.length e9,.bool s.same] from by rw [hw4];exact heap_alloc_new w3 _)
  go_wp2_with fail
  rw [<-hw4]
  clear hw4
  obtain ⟨g3,hg3⟩ : ∃g,g=w3.heap.size:=⟨_,rfl⟩
  rw [<-hg3] at HSP4
  rw [<-hg3]
  have HG3:=z_ hg3
  clear hg3
  have HBX4:=z_ (blk_below HBX3.out HB43.out)
  have HB4:=z_ (below_step HB3.out HB43.out)
  refine start_ (n:=5) (S:=fun w'=>SpB w' g3 [.slice Af nf cf,.int .i64 s.at_,.bool s.node.f0,.slice E1 s.node.f1.length e1,.slice E2 s.node.f2.length e2,.int .i64 s.node.f3,.int .i64 s.node.f4,.slice E5 s.node.f5.length e5,.int .i64 s.node.f6,.int .i64 s.node.f7,.int .i64 s.node.f8,.slice E9 s.node.f9.length e9,.bool s.same]/\w'.heap[g0]? = some (.cells #[.pointer (some ⟨p,0,none⟩)] 25 (0,0))) (ds:=[]) (bt_ 5 0) (by kernel_rfl) rfl rfl ?hs0 (fun hHeld=>?_)
  case hs0=>exact ⟨HSP4.out,HBX4.out⟩
  refine with_tabW ins_tab8 ins_bits8 (fun HT_ HW_=>?_)
  have HD5:=z_ (show Below w4.heap.size w4 w4.drew from below_drew (Below.refl _ _))
  generalize hgw:w4.drew=w5 at HD5 hHeld ⊢
  clear hgw
  have HB5:=z_ (below_step HB4.out HD5.out)
  have HB53:=z_ (below_step HB43.out HD5.out)
  refine take_ (i:=0) (N:=some 48) (v:=?_) (a':=?_) (bt_ 5 1) rfl rfl (take_ofW HT_.out HW_.out (by kernel_rfl)) (fun _ _ _ h=>h) (Or.inl ⟨by rfl,?_⟩) hHeld ?_ ?_
  rotate_left
  ·rintro w' s0
   obtain ⟨z0,z1,z2,z3,z4,z5,z6,z7,z8,z9,z10,z11,z12⟩:=SpB.cells s0.1
   go_simp
   with_reducible rfl
  rotate_left
  ·simp only [pq_]
   rfl
  refine take_ (i:=2) (N:=some 50) (v:=?_) (a':=?_) (bt_ 5 5) rfl rfl (take_ofW HT_.out HW_.out (by kernel_rfl)) (fun _ _ _ h=>h) (Or.inl ⟨by rfl,?_⟩) hHeld ?_ ?_
  rotate_left
  ·rintro w' s0
   have k0:=blk_cell s0.2 0
   simp at k0
   go_simp
   with_reducible rfl
  rotate_left
  ·simp only [pq_]
   rfl
  refine one_ (i:=1) (N:=some 49) (bt_ 5 7) rfl rfl (one_of HT_.out (by kernel_rfl)) (by decide) (fun K hK=>?_)
  refine goes_ Tryz.func21 (by kernel_rfl) rfl #[.agg #[.slice Af nf cf,.int .i64 s.at_,.bool s.node.f0,.slice E1 s.node.f1.length e1,.slice E2 s.node.f2.length e2,.int .i64 s.node.f3,.int .i64 s.node.f4,.slice E5 s.node.f5.length e5,.int .i64 s.node.f6,.int .i64 s.node.f7,.int .i64 s.node.f8,.slice E9 s.node.f9.length e9,.bool s.same]] (by rfl) rfl rfl (by (try simp only [List.map_toArray,List.map_cons,List.map_nil]);first|done|rfl) ?_
  with_reducible refine (needs_calls w5 Af nf cf s.at_ (.bool s.node.f0) (.slice E1 s.node.f1.length e1) (.slice E2 s.node.f2.length e2) (.int .i64 s.node.f3) (.int .i64 s.node.f4) (.slice E5 s.node.f5.length e5) (.int .i64 s.node.f6) (.int .i64 s.node.f7) (.int .i64 s.node.f8) (.slice E9 s.node.f9.length e9) s.same (by have:=HNF.out;omega)).mono ?_
  rintro e w6 ⟨rfl,hb⟩
  have HB6:=z_ (below_step HB5.out hb)
  have HB63:=z_ (below_step HB53.out hb)
  have HSP6:=z_ (HSP4.out.below (below_step HD5.out hb))
  have HBX6:=z_ (blk_below HBX4.out (below_step HD5.out hb))
  clear hb
  refine ⟨_,rfl,?_⟩
  refine hK.out _ _ ⟨HSP6.out,HBX6.out⟩ (fun hHeld=>?_)
  clear hK K
  refine norm_ (a':=?_) ?_ ?_
  rotate_left
  ·show Act.put _ (some 49) _=_
   simp only [pq_]
   rfl
  have HNE:((s.needs:Nat):Int)=(nf:Int)+1+(if s.at_≠ -1/\s.same=false then 1 else 0):=by
   unfold Spot.needs
   have:=HNF.out
   split<;>omega
  rw [<-HNE]
  clear HNE
  refine one_ (i:=3) (N:=some 51) (bt_ 5 15) rfl rfl (one_of HT_.out (by kernel_rfl)) (by decide) (fun K hK=>?_)
  refine goes_ Tryz.func25 (by kernel_rfl) rfl #[.pointer (some ⟨p,0,none⟩)] (by rfl) rfl rfl (by (try simp only [List.map_toArray,List.map_cons,List.map_nil]);first|done|rfl) ?_
  with_reducible refine (roomA_calls (H.out.m.below HB6.out)).mono ?_
  rintro e w7 ⟨rfl,hdr⟩
  have HB7:=z_ (below_step HB6.out hdr.below)
  have HB73:=z_ (below_step HB63.out hdr.below)
  have HSP7:=z_ (HSP6.out.below hdr.below)
  have HBX7:=z_ (blk_below HBX6.out hdr.below)
  clear hdr
  refine ⟨_,rfl,?_⟩
  refine hK.out _ _ ⟨HSP7.out,HBX7.out⟩ (fun hHeld=>?_)
  clear hK K
  refine norm_ (a':=?_) ?_ ?_
  rotate_left
  ·show Act.put _ (some 51) _=_
   simp only [pq_]
   rfl
  obtain ⟨rm,hrm⟩ : ∃x,x=room-(usedN cs:Int):=⟨_,rfl⟩
  rw [<-hrm]
  obtain ⟨nd,hnd⟩ : ∃x,x=((s.needs:Nat):Int):=⟨_,rfl⟩
  rw [<-hnd]
  have HRM:=z_ hrm
  have HND2:=z_ hnd
  clear hrm hnd
  refine pure_ (i:=4) (N:=some 52) (v:=?_) (a':=?_) (bt_ 5 31) rfl rfl (any_of HT_.out (by kernel_rfl)) (fun _ _ _ h=>h) (Or.inl ⟨by rfl,?_⟩) ?_ ?_
  rotate_left
  ·intro w'
   go_simp
   with_reducible rfl
  rotate_left
  ·simp only [pq_]
   rfl
  refine done_ (done_of HT_.out (by kernel_rfl)) ?_
  clear hHeld HT_ HW_
  have d6:rm<nd:=by have h1:=HFU.out;rw [<-HS.out] at h1;have:=HRM.out;have:=HND2.out;omega
  have d5:decide (rm<nd)=true:=decide_eq_true d6
  go_wp2_with fail
  go_ret2
  exact ⟨rfl,ArenaP.of_below H.out.m HB7.out⟩
theorem RefM.next {w w':World} {base q:Nat} {size most:Int} {vl:Value} {X:Nat->Prop} {cs cs1:Cs} (h:RefM w base q size most vl X cs) (hp:RefP w w' base q size most vl X cs1):
 ∃vl' X',RefM w' base q size most vl' X' cs1/\(∀k,X k->X' k)/\Grew w X X'/\Grew w (OwnQ q vl) (OwnQ q vl')/\Kept w w' (OwnQ q vl)/\Below base w w':=by
 obtain ⟨vl',X1,hM,g1,g2,hk,hb⟩:=hp
 have hold : ∀k,k<w.heap.size->OwnQ q vl' k->OwnQ q vl k:=fun k hl ho=>(g1 k ho).elim (fun x=>x) (fun h1=>absurd h1 (by omega))
 refine ⟨vl',fun k=>X k\/X1 k,?_,fun k hx=>.inl hx,fun k hx=>hx.elim .inl (g2 k),g1,hk,hb⟩
 refine hM.step (Nat.le_refl _) (fun _ _ _=>rfl) (fun k hx=>.inr hx) (fun k hx=>?_)
 rcases hx with hx|hx
 ·have:=h.sep k hx
  exact ⟨Nat.lt_of_lt_of_le this.1 hk.1,fun ho=>this.2 (hold k this.1 ho)⟩
 ·exact hM.sep k hx
theorem RefM.more {w:World} {base q:Nat} {size most:Int} {vl:Value} {X:Nat->Prop} {cs:Cs} (h:RefM w base q size most vl X cs) (Y:Nat->Prop) (hY : ∀k,Y k->k<w.heap.size/\¬OwnQ q vl k):RefM w base q size most vl (fun k=>X k\/Y k) cs:=
 h.step (Nat.le_refl _) (fun _ _ _=>rfl) (fun k hx=>.inl hx) (fun k hx=>hx.elim (h.sep k) (hY k))
def RPartP (w w':World) (base q:Nat) (size most:Int) (vl:Value) (X:Nat->Prop) (cs:Cs) (row:List Int) (m at_ lf:Int) (e:Ending):Prop:=
 ∃i er cs',PutOut (forkBad cs m row (kidL row m at_ lf) (kidR row m at_ lf)) cs most (forkOf size cs m row (kidL row m at_ lf) (kidR row m at_ lf)) i er cs'/\e = .returned (.int .i64 i)/\RefP w w' base q size most vl X cs'
set_option maxHeartbeats 4000000 in
set_option maxRecDepth 100000 in
theorem rfork10_calls {w:World} {base q:Nat} {size most:Int} {vl:Value} {X:Nat->Prop} {cs:Cs} (h:RefM w base q size most vl X cs) (hcs:CsOk cs) (Ar:Option Addr) (cr:Nat) (row:List Int) (hrow:BX w X (.slice Ar row.length cr) row) (hro:BytesOk row) (m lf at_:Int) (hm:m<=1000000000):
 Calls Tryz.prog 33 #[.pointer (some ⟨q,0,none⟩),.int .i64 m,.slice Ar row.length cr,.int .i64 lf,.int .i64 at_] w
  fun e w'=>RPartP w w' base q size most vl X cs row m at_ lf e:=by
 have HM:=z_ h
 have HCS:=z_ hcs
 have HRW:=z_ (And.intro hrow hro)
 have HMB:=z_ hm
 clear h hcs hrow hro hm
 go_enter Tryz.func33,Tryz.ntmps33
 go_wp2_with fail
 refine (annalsref03_Bit.calls Ar cr row m (bitP row m) w (Kd.V_reads' HRW.out.1).2.2 (Kd.V_reads' HRW.out.1).2.1 (rbitP_f row HRW.out.2 m HMB.out)).mono ?_
 rintro e w1 ⟨rfl,hdr⟩
 have HB1:=z_ hdr.below
 clear hdr
 by_cases hbit:bitP row m=1
 ·have hb1:(bitP row m==1)=true:=by rw [hbit];rfl
  have HKK:=z_ (show kidL row m at_ lf=at_/\kidR row m at_ lf=lf from ⟨by unfold kidL;rw [if_pos hbit],by unfold kidR;rw [if_pos hbit]⟩)
  clear hbit
  go_wp2_with fail
  refine (rfork_calls (HM.out.below HB1.out) Ar cr row m at_ lf (by have:=HMB.out;omega) (Kd.V_below HRW.out.1 HB1.out) HRW.out.2 (fun i n hn=>HCS.out.at i n hn)).mono ?_
  rintro e w2 hp
  rw [rforkOf_eq _ _ _ _ HRW.out.2] at hp
  obtain ⟨i,er,cs1,hout,rfl,hA⟩:=hp.out
  have HP:=z_ (And.intro hout (hA.start (Grew.refl _ _) HB1.out HM.out.base_le.1))
  clear hp hout hA
  go_wp2_with fail
  go_ret
  exact ⟨i,er,cs1,by rw [HKK.out.1,HKK.out.2];exact HP.out.1,rfl,HP.out.2⟩
 ·have hb1:(bitP row m==1)=false:=by simpa using hbit
  have HKK:=z_ (show kidL row m at_ lf=lf/\kidR row m at_ lf=at_ from ⟨by unfold kidL;rw [if_neg hbit],by unfold kidR;rw [if_neg hbit]⟩)
  clear hbit
  go_wp2_with fail
  refine (rfork_calls (HM.out.below HB1.out) Ar cr row m lf at_ (by have:=HMB.out;omega) (Kd.V_below HRW.out.1 HB1.out) HRW.out.2 (fun i n hn=>HCS.out.at i n hn)).mono ?_
  rintro e w2 hp
  rw [rforkOf_eq _ _ _ _ HRW.out.2] at hp
  obtain ⟨i,er,cs1,hout,rfl,hA⟩:=hp.out
  have HP:=z_ (And.intro hout (hA.start (Grew.refl _ _) HB1.out HM.out.base_le.1))
  clear hp hout hA
  go_wp2_with fail
  go_ret
  exact ⟨i,er,cs1,by rw [HKK.out.1,HKK.out.2];exact HP.out.1,rfl,HP.out.2⟩
structure RefPre (w:World) (base q:Nat) (size most:Int) (vl:Value) (X:Nat->Prop) (cs:Cs) (A1 A2:Option Addr) (c1 c2:Nat) (id key:List Int):Prop where
 m:RefM w base q size most vl X cs
 ok:CsOk cs
 bid:BX w X (.slice A1 id.length c1) id
 bkey:BX w X (.slice A2 key.length c2) key
 ido:BytesOk id
 keyo:BytesOk key
 idl:id.length<=9223372036854775807
 keyl:key.length<=9223372036854775807
 node : ∀n,some n∈cs->BytesOk n.f1/\BytesOk n.f5/\n.f4<=9223372036854775807
def RInsP (w w':World) (base q:Nat) (size most:Int) (vl:Value) (X:Nat->Prop) (cs':Cs) (i er:Int) (e:Ending):Prop:=e = .returned (.tuple #[.int .i64 i,.int .i64 er])/\RefP w w' base q size most vl X cs'
set_option maxHeartbeats 8000000 in
set_option maxRecDepth 100000 in
theorem rinsert_root {w:World} {base q:Nat} {size most:Int} {vl:Value} {X:Nat->Prop} {cs:Cs} {A1 A2:Option Addr} {c1 c2:Nat} {id key:List Int} (h:RefPre w base q size most vl X cs A1 A2 c1 c2 id key) (root since:Int) (hr:root≠ -1) (hb:nodeAt cs root=none):
 Calls Tryz.prog 10 #[.pointer (some ⟨q,0,none⟩),.int .i64 root,.slice A1 id.length c1,.slice A2 key.length c2,.int .i64 since] w fun e w'=>RInsP w w' base q size most vl X cs 0 1 e:=by
 have H:=z_ h
 clear h
 have hr1:(root != -1)=true:=by simpa using hr
 have HBV:=z_ (show ∀b,b=(nodeAt cs root).isSome->b=false from fun b e=>by rw [e,hb];rfl)
 clear hr hb
 go_enter Tryz.func10,Tryz.ntmps10
 go_wp2_with fail
 refine (rnode_calls H.out.m root (fun n hn=>(H.out.ok.at root n hn).1)).mono ?_
 rintro e w1 ⟨hN,hb⟩
 obtain ⟨n1,b,hn,hb_,D1,D2,D5,D9,d1,d2,d5,d9,rfl,x1,x2,x5,x9⟩:=hN.all
 have HB1:=z_ hb
 have hbv:=HBV.out b hb_
 subst hbv
 clear hN hn hb_ x1 x2 x5 x9 hb
 obtain ⟨w2,hw2⟩ : ∃w2,w2=w1.alloc (.cells #[.bool n1.f0,.slice D1 n1.f1.length d1,.slice D2 n1.f2.length d2,.int .i64 n1.f3,.int .i64 n1.f4,.slice D5 n1.f5.length d5,.int .i64 n1.f6,.int .i64 n1.f7,.int .i64 n1.f8,.slice D9 n1.f9.length d9] 59):=⟨_,rfl⟩
 have HB2:=z_ (show Below w.heap.size w w2 from by rw [hw2];exact below_alloc HB1.out _)
 go_wp2_with fail
 rw [<-hw2]
 clear hw2
 go_ret2
 exact ⟨rfl,RefP.of_below H.out.m HB2.out⟩
set_option maxHeartbeats 8000000 in
set_option maxRecDepth 100000 in
theorem rinsert_bad {w:World} {base q:Nat} {size most:Int} {vl:Value} {X:Nat->Prop} {cs:Cs} {A1 A2:Option Addr} {c1 c2:Nat} {id key:List Int} (h:RefPre w base q size most vl X cs A1 A2 c1 c2 id key) (root since:Int) (hroot:root = -1\/(root≠ -1/\(nodeAt cs root).isSome=true)) (hbad:badIns id key since):
 Calls Tryz.prog 10 #[.pointer (some ⟨q,0,none⟩),.int .i64 root,.slice A1 id.length c1,.slice A2 key.length c2,.int .i64 since] w fun e w'=>RInsP w w' base q size most vl X cs 0 1 e:=by
 have H:=z_ h
 clear h
 have HN1:=z_ (show nodeAt cs (-1)=none from nodeAt_neg cs (-1) (by omega))
 rcases hroot with hr|⟨hr,hnd⟩
 all_goals
  first
  | replace hr:root = -1:=hr
    have hr1:(root != -1)=false:=by simpa using hr
    have HBV:=z_ (show ∀b,b=(nodeAt cs root).isSome->b=false from fun b e=>by rw [e,hr,HN1.out];rfl)
    clear hr
  | replace hr:root≠ -1:=hr
    have hr1:(root != -1)=true:=by simpa using hr
    have HBV:=z_ (show ∀b,b=(nodeAt cs root).isSome->b=true from fun b e=>by rw [e,hnd])
    clear hr hnd
 all_goals
  have HBAD:=z_ hbad
  clear hbad
  by_cases h1:255<id.length
 all_goals
  first
  | replace h1:255<id.length:=h1
    have e1:decide ((255:Int)<(id.length:Int))=true:=decide_eq_true (by omega)
    clear h1
  | replace h1 : ¬255<id.length:=h1
    have e1:decide ((255:Int)<(id.length:Int))=false:=decide_eq_false (by omega)
    by_cases h2:65535<key.length
    all_goals
     first
     | replace h2:65535<key.length:=h2
       have e2:decide ((65535:Int)<(key.length:Int))=true:=decide_eq_true (by omega)
       clear h1 h2
     | replace h2 : ¬65535<key.length:=h2
       have e2:decide ((65535:Int)<(key.length:Int))=false:=decide_eq_false (by omega)
       have e3:decide (since<0)=true:=decide_eq_true ((HBAD.out.resolve_left h1).resolve_left h2)
       clear h1 h2
 all_goals
  go_enter Tryz.func10,Tryz.ntmps10
  go_wp2_with fail
  refine (rnode_calls H.out.m root (fun n hn=>(H.out.ok.at root n hn).1)).mono ?_
  rintro e w1 ⟨hN,hb⟩
  obtain ⟨n1,b,hn,hb_,D1,D2,D5,D9,d1,d2,d5,d9,rfl,x1,x2,x5,x9⟩:=hN.all
  have HB1:=z_ hb
  have hbv:=HBV.out b hb_
  subst hbv
  clear hN hn hb_ x1 x2 x5 x9 hb
  obtain ⟨w2,hw2⟩ : ∃w2,w2=w1.alloc (.cells #[.bool n1.f0,.slice D1 n1.f1.length d1,.slice D2 n1.f2.length d2,.int .i64 n1.f3,.int .i64 n1.f4,.slice D5 n1.f5.length d5,.int .i64 n1.f6,.int .i64 n1.f7,.int .i64 n1.f8,.slice D9 n1.f9.length d9] 59):=⟨_,rfl⟩
  have HB2:=z_ (show Below w.heap.size w w2 from by rw [hw2];exact below_alloc HB1.out _)
  go_wp2_with fail
  rw [<-hw2]
  clear hw2
  go_ret2
  exact ⟨rfl,RefP.of_below H.out.m HB2.out⟩
def rins_T4:Bool×List (List Nat×List Nat):=(true,[([],[]),([],[]),([],[]),([0,1,2],[0,1,2]),([],[]),([4],[4]),([5],[5]),([6],[6]),([],[]),([8,3],[8]),([7,9],[7,9]),([3,10],[3,10])])
def rins_B4:List Nat:=[0,0,0,7,0,16,48,112,0,271,1023,2047]
theorem rins_tab4:rtab .any (opsOf Tryz.f10 4)=rins_T4:=by kernel_rfl
theorem rins_bits4:waitsOk rins_T4.2 rins_B4=true:=by kernel_rfl
set_option maxHeartbeats 8000000 in
set_option maxRecDepth 100000 in
theorem rinsert_full {w:World} {base q:Nat} {size most:Int} {vl:Value} {X:Nat->Prop} {cs:Cs} {A1 A2:Option Addr} {c1 c2:Nat} {id key:List Int} (h:RefPre w base q size most vl X cs A1 A2 c1 c2 id key) (root since:Int) (hroot:root = -1\/(root≠ -1/\(nodeAt cs root).isSome=true)) (hbad : ¬badIns id key since) (t0:Option PT) (ht0:IsO cs root t0) (hh:(wayO (keyB id) root t0).1.length<=8*(keyB id).length) (hfull:most-(usedN cs:Int)<((findO (keyB id) id root t0).needs:Int)):
 Calls Tryz.prog 10 #[.pointer (some ⟨q,0,none⟩),.int .i64 root,.slice A1 id.length c1,.slice A2 key.length c2,.int .i64 since] w fun e w'=>RInsP w w' base q size most vl X cs 0 4 e:=by
 have H:=z_ h
 clear h
 have HNR:=z_ (show root≠ -1->¬t0.isSome=false from fun h e=>by rcases hroot with h1|⟨_,h1⟩;exact h h1;rw [IsO.isSome ht0,e] at h1;cases h1)
 have HN1:=z_ (show nodeAt cs (-1)=none from nodeAt_neg cs (-1) (by omega))
 have HT0:=z_ (And.intro ht0 hh)
 have e1:decide ((255:Int)<(id.length:Int))=false:=decide_eq_false (fun h=>hbad (.inl (by omega)))
 have e2:decide ((65535:Int)<(key.length:Int))=false:=decide_eq_false (fun h=>hbad (.inr (.inl (by omega))))
 have e3:decide (since<0)=false:=decide_eq_false (fun h=>hbad (.inr (.inr h)))
 have HNB:=z_ hbad
 clear ht0 hh hbad
 have HFU:=z_ hfull
 clear hfull
 rcases hroot with hr|⟨hr,hnd⟩
 all_goals
  first
  | replace hr:root = -1:=hr
    have hr1:(root != -1)=false:=by simpa using hr
    have HBV:=z_ (show ∀b,b=(nodeAt cs root).isSome->b=false from fun b e=>by rw [e,hr,HN1.out];rfl)
    clear hr
  | replace hr:root≠ -1:=hr
    have hr1:(root != -1)=true:=by simpa using hr
    have HBV:=z_ (show ∀b,b=(nodeAt cs root).isSome->b=true from fun b e=>by rw [e,hnd])
    clear hr hnd
 all_goals
  go_enter Tryz.func10,Tryz.ntmps10
  go_wp2_with fail
  refine (rnode_calls H.out.m root (fun n hn=>(H.out.ok.at root n hn).1)).mono ?_
  rintro e w1 ⟨hN,hb⟩
  obtain ⟨n1,b,hn,hb_,D1,D2,D5,D9,d1,d2,d5,d9,rfl,x1,x2,x5,x9⟩:=hN.all
  have HB1:=z_ hb
  have hbv:=HBV.out b hb_
  subst hbv
  clear hN hn hb_ x1 x2 x5 x9 hb
  obtain ⟨w2,hw2⟩ : ∃w2,w2=w1.alloc (.cells #[.bool n1.f0,.slice D1 n1.f1.length d1,.slice D2 n1.f2.length d2,.int .i64 n1.f3,.int .i64 n1.f4,.slice D5 n1.f5.length d5,.int .i64 n1.f6,.int .i64 n1.f7,.int .i64 n1.f8,.slice D9 n1.f9.length d9] 59):=⟨_,rfl⟩
  have HB2:=z_ (show Below w.heap.size w w2 from by rw [hw2];exact below_alloc HB1.out _)
  go_wp2_with fail
  rw [<-hw2]
  clear hw2 e1 e2 e3
  have HQ1:=z_ (show ∀W,Below w.heap.size w W->W.cell? ⟨q,1,none⟩=some (.int .i64 most) from fun W hb=>by
   obtain ⟨rows,hv⟩:=(H.out.m.below hb).mem
   exact hv.blk.cells.2.1)
  have hroomr:=H.out.m.hr
  have hused:(usedN cs:Int)<=4194304:=by have h1:=usedN_le cs;have h2:=H.out.m.hl;omega
  have HRU:=z_ (And.intro hroomr hused)
  clear hroomr hused
  refine start_ (n:=12) (S:=fun w'=>w'.cell? ⟨q,1,none⟩=some (.int .i64 most)) (ds:=[]) (bt_ 12 0) (by kernel_rfl) rfl rfl ?hs0 (fun hHeld=>?_)
  case hs0=>exact HQ1.out _ (below_drew HB2.out)
  refine with_tabW rins_tab4 rins_bits4 (fun HT_ HW_=>?_)
  have HB3:=z_ (show Below w.heap.size w w2.drew from below_drew HB2.out)
  generalize hgw:w2.drew=w3 at HB3 hHeld ⊢
  clear hgw
  refine pure_ (i:=0) (N:=(some 51)) (v:=?_) (a':=?_) (bt_ 12 1) rfl rfl (any_of HT_.out (by kernel_rfl)) (fun _ _ _ h=>h) (Or.inl ⟨by rfl,?_⟩) ?_ ?_
  rotate_left
  ·intro w'
   go_simp
   with_reducible rfl
  rotate_left
  ·simp only [pq_]
   rfl
  refine pure_ (i:=1) (N:=(some 52)) (v:=?_) (a':=?_) (bt_ 12 3) rfl rfl (any_of HT_.out (by kernel_rfl)) (fun _ _ _ h=>h) (Or.inl ⟨by rfl,?_⟩) ?_ ?_
  rotate_left
  ·intro w'
   go_simp
   with_reducible rfl
  rotate_left
  ·simp only [pq_]
   rfl
  refine pure_ (i:=2) (N:=(some 53)) (v:=?_) (a':=?_) (bt_ 12 7) rfl rfl (any_of HT_.out (by kernel_rfl)) (fun _ _ _ h=>h) (Or.inl ⟨by rfl,?_⟩) ?_ ?_
  rotate_left
  ·intro w'
   go_simp
   with_reducible rfl
  rotate_left
  ·simp only [pq_]
   rfl
  refine pure_ (i:=4) (N:=(some 55)) (v:=?_) (a':=?_) (bt_ 12 23) rfl rfl (any_of HT_.out (by kernel_rfl)) (fun _ _ _ h=>h) (Or.inl ⟨by rfl,?_⟩) ?_ ?_
  rotate_left
  ·intro w'
   go_simp
   with_reducible rfl
  rotate_left
  ·simp only [pq_]
   rfl
  refine pure_ (i:=5) (N:=(some 56)) (v:=?_) (a':=?_) (bt_ 12 55) rfl rfl (any_of HT_.out (by kernel_rfl)) (fun _ _ _ h=>h) (Or.inl ⟨by rfl,?_⟩) ?_ ?_
  rotate_left
  ·intro w'
   go_simp
   with_reducible rfl
  rotate_left
  ·simp only [pq_]
   rfl
  refine pure_ (i:=6) (N:=(some 57)) (v:=?_) (a':=?_) (bt_ 12 119) rfl rfl (any_of HT_.out (by kernel_rfl)) (fun _ _ _ h=>h) (Or.inl ⟨by rfl,?_⟩) ?_ ?_
  rotate_left
  ·intro w'
   go_simp
   with_reducible rfl
  rotate_left
  ·simp only [pq_]
   rfl
  refine take_ (i:=7) (N:=(some 58)) (v:=?_) (a':=?_) (bt_ 12 247) rfl rfl (take_ofW HT_.out HW_.out (by kernel_rfl)) (fun _ _ _ h=>h) (Or.inl ⟨by rfl,?_⟩) hHeld ?_ ?_
  rotate_left
  ·rintro w' s0
   go_simp
   with_reducible rfl
  rotate_left
  ·simp only [pq_]
   rfl
  refine pure_ (i:=8) (N:=(some 59)) (v:=?_) (a':=?_) (bt_ 12 503) rfl rfl (any_of HT_.out (by kernel_rfl)) (fun _ _ _ h=>h) (Or.inl ⟨by rfl,?_⟩) ?_ ?_
  rotate_left
  ·intro w'
   go_simp
   with_reducible rfl
  rotate_left
  ·simp only [pq_]
   rfl
  refine one_ (i:=3) (N:=(some 54)) (bt_ 12 511) rfl rfl (one_of HT_.out (by kernel_rfl)) (by decide) (fun K hK=>?_)
  refine goes_ Tryz.func8 (by kernel_rfl) rfl #[.pointer (some ⟨q,0,none⟩),.int .i64 root,.slice A1 id.length c1] (by rfl) rfl rfl (by (try simp only [List.map_toArray,List.map_cons,List.map_nil]);first|done|rfl) ?_
  with_reducible refine (rneeds_calls (H.out.m.below HB3.out) H.out.ok root A1 c1 id (Kd.C_below (Kd.V_reads' H.out.bid).2.2 HB3.out) (Kd.V_reads' H.out.bid).2.1 H.out.ido H.out.node t0 HT0.out.1 HT0.out.2 HN1.out).mono ?_
  rintro e w4 ⟨rfl,hb⟩
  have HB4:=z_ (below_step HB3.out hb)
  clear hb
  refine ⟨_,rfl,?_⟩
  refine hK.out _ _ (HQ1.out _ HB4.out) (fun hHeld=>?_)
  clear hK K
  refine norm_ (a':=?_) ?_ ?_
  rotate_left
  ·show Act.put _ (some 54) _=_
   simp only [pq_]
   rfl
  refine one_ (i:=9) (N:=(some 60)) (bt_ 12 1023) rfl rfl (one_of HT_.out (by kernel_rfl)) (by decide) (fun K hK=>?_)
  refine goes_ Tryz.func15 (by kernel_rfl) rfl #[.pointer (some ⟨q,0,none⟩)] (by rfl) rfl rfl (by (try simp only [List.map_toArray,List.map_cons,List.map_nil]);first|done|rfl) ?_
  with_reducible refine (rused_calls (H.out.m.below HB4.out)).mono ?_
  rintro e w' ⟨rfl,rfl⟩
  refine ⟨_,rfl,?_⟩
  refine hK.out _ _ (HQ1.out _ HB4.out) (fun hHeld=>?_)
  clear hK K
  refine norm_ (a':=?_) ?_ ?_
  rotate_left
  ·show Act.put _ (some 60) _=_
   simp only [pq_]
   rfl
  obtain ⟨us,hus⟩ : ∃x,x=(usedN cs:Int):=⟨_,rfl⟩
  have hls:wrap64 (most-us)=most-us:=wrap64_id _ (by rw [hus];have:=HRU.out;omega)
  have HUS:=z_ hus
  rw [<-hus]
  obtain ⟨nd,hnd⟩ : ∃x,x=needsO root t0 (findO (keyB id) id root t0):=⟨_,rfl⟩
  rw [<-hnd]
  have HND:=z_ hnd
  clear hus hnd
  refine pure_ (i:=10) (N:=(some 61)) (v:=?_) (a':=?_) (bt_ 12 2047) rfl rfl (any_of HT_.out (by kernel_rfl)) (fun _ _ _ h=>h) (Or.inl ⟨by rfl,?_⟩) ?_ ?_
  rotate_left
  ·intro w'
   go_simp
   with_reducible rfl
  rotate_left
  ·simp only [pq_]
   rfl
  refine pure_ (i:=11) (N:=(some 62)) (v:=?_) (a':=?_) (bt_ 12 4095) rfl rfl (any_of HT_.out (by kernel_rfl)) (fun _ _ _ h=>h) (Or.inl ⟨by rfl,?_⟩) ?_ ?_
  rotate_left
  ·intro w'
   go_simp
   with_reducible rfl
  rotate_left
  ·simp only [pq_]
   rfl
  refine done_ (done_of HT_.out (by kernel_rfl)) ?_
  clear hHeld HT_ HW_
  have HNN:=z_ (show nd=((findO (keyB id) id root t0).needs:Int) from by
   rw [HND.out]
   unfold needsO
   rw [if_neg]
   rintro ⟨h1,h2⟩
   exact HNR.out h1 h2)
  have d6:most-us<nd:=by have h1:=HFU.out;rw [HNN.out,HUS.out];exact h1
  have d5:decide (most-us<nd)=true:=decide_eq_true d6
  go_wp2_with fail
  go_ret2
  exact ⟨rfl,RefP.of_below H.out.m HB4.out⟩
end Go.Proofs.YtdeneoknjeegbaaGreatDoor.P
end
