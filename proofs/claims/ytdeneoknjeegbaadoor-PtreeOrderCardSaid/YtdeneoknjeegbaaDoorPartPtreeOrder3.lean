/- Lemmas of this claim, part 3. -/
import Derived.Test.YtdeneoknjeegbaaDoorPartPtreeOrder2
import Derived.WalkSpells
set_option linter.unusedVariables false
set_option linter.unusedSimpArgs false
section
namespace Go.Proofs.YtdeneoknjeegbaaDoor.P
open Go.RowKit YtdeneoknjeegbaaDoorW.PrintWords YtdeneoknjeegbaaDoorW.PrintLast YtdeneoknjeegbaaDoorW.PrintMore
def bitBytes (n:Nat):Nat:=(n-1)/8+1
def cutByte (x:Int) (over:Int):Int:=Go.bits .and .u8 x (255*2^(8-over).toNat%256)
def firstBits (l:List Int) (n:Nat):List Int:=
 if n%8=0 then l.take (bitBytes n) else (l.take (bitBytes n)).set (bitBytes n-1) (cutByte ((l.take (bitBytes n)).getD (bitBytes n-1) 0) ((n%8:Nat):Int))
def firstB (l:List Int) (a:Int):List Int:=if 8*(l.length:Int)<=a then l else if a<1 then [] else firstBits l a.toNat
def bits_First.f (l0:List Int) (a1:Int):Option (List Int):=if l0.length<140737488355328 then some (firstB l0 a1) else none
theorem and7 (a:Int):Go.bits .and .i64 a 7=a%8:=by
 unfold Go.bits
 have h7:BitVec.ofInt IntKind.i64.bits 7=BitVec.ofNat 64 7:=rfl
 have ha:(BitVec.ofInt IntKind.i64.bits a &&& BitVec.ofInt IntKind.i64.bits 7).toNat=(a%8).toNat:=by
  rw [h7]
  have h1:(BitVec.ofInt 64 a).toNat=(a%18446744073709551616).toNat:=by rw [BitVec.toNat_ofInt];rfl
  show ((BitVec.ofInt 64 a) &&& BitVec.ofNat 64 7).toNat=_
  rw [BitVec.toNat_and,h1,BitVec.toNat_ofNat]
  have h2:=Nat.and_two_pow_sub_one_eq_mod (a%18446744073709551616).toNat 3
  have h3:(7%2^64:Nat)=2^3-1:=by decide
  rw [h3,h2]
  omega
 simp only [ha]
 rw [IntKind.wrap_i64]
 omega
set_option maxHeartbeats 4000000 in
set_option maxRecDepth 100000 in
theorem bits_First.calls (A0:Option Addr) (c0:Nat) (l0:List Int) (a1:Int) (r:List Int) (w:World) (hr0:Kd.C (Kd.int .u8) w A0 l0.length l0) (hc0:l0.length<=c0) (h:bits_First.f l0 a1=some r):
 Calls Tryd.prog 77 #[.slice A0 l0.length c0,.int .i64 a1] w fun e w'=>∃v0_:Value,e = .returned (v0_)/\Kd.R (Kd.int .u8) 5 w' w.heap.size (fun _=>True) v0_ r/\Below w.heap.size w w':=by
 unfold bits_First.f at h
 split at h
 case isFalse=>cases h
 case isTrue hlb=>
 obtain rfl:=Option.some.inj h
 have HR:=z_ hr0
 have HC:=z_ hc0
 have hl2:(l0.length:Int)<140737488355328:=by omega
 have HL:=z_ hlb
 unfold firstB
 by_cases hge:8*(l0.length:Int)<=a1
 ·rw [if_pos hge]
  have hd:decide (8*(l0.length:Int)<=a1)=true:=decide_eq_true hge
  have HH:=z_ (show slices_Clone_byte_byte.f l0=some l0 from if_pos hlb)
  clear h hr0 hc0 hge hlb
  go_enter Tryd.func77,Tryd.ntmps77
  go_wp2_with fail
  refine (slices_Clone_byte_byte.calls A0 c0 l0 l0 _ HR.out HC.out HH.out).mono ?_
  rintro e1 w1 ⟨v,rfl,hR,hB⟩
  have HR1:=z_ hR
  have HB1:=z_ hB
  clear hR hB
  go_wp2_with fail
  go_ret
  exact ⟨_,rfl,HR1.out,HB1.out⟩
 ·rw [if_neg hge]
  have hd:decide (8*(l0.length:Int)<=a1)=false:=decide_eq_false hge
  by_cases h1:a1<1
  ·rw [if_pos h1]
   have hd1:decide (a1<1)=true:=decide_eq_true h1
   clear h hr0 hc0 hge h1 hlb
   go_enter Tryd.func77,Tryd.ntmps77
   go_wp2_with fail
   go_ret
   exact ⟨_,rfl,Kd.R_nil _ _ _ _ _,Below.refl _ _⟩
  ·rw [if_neg h1]
   have hd1:decide (a1<1)=false:=decide_eq_false h1
   obtain ⟨m,hm⟩ : ∃m,m=bitBytes a1.toNat:=⟨_,rfl⟩
   have hm1:(a1-1)/8+1=(m:Int):=by rw [hm];unfold bitBytes;omega
   have hml:m<=l0.length:=by omega
   have hm0:0<m:=by omega
   have ha1:1<=a1:=by omega
   have HA1:=z_ ha1
   have ha2:a1<=1125899906842624:=by omega
   have hmi:(m:Int)<=140737488355328:=by omega
   have hmk:=print_make (P:=Tryd.prog) 31 5 .u8 1 Tryd.underlying31 info5 (by decide) m (by omega)
   obtain ⟨W1,hW1⟩ : ∃W1,W1=w.alloc (.cells (madeCells #[.int .u8 0] m) 5):=⟨_,rfl⟩
   have hz:(madeCells #[Value.int .u8 0] m)=(List.replicate m (Value.int .u8 0)).toArray:=by
    apply Array.ext'
    have:=own_made w w.heap.size 5 .u8 m (Nat.le_refl _) (by omega)
    apply List.ext_getElem
    ·simp [size_madeCells]
    ·intro i h1 h2
     simp [madeCells,Nat.mod_one]
   have HTAIL:W1.heap[w.heap.size]? = some (.cells (List.replicate m (Value.int .u8 0)).toArray 5 (0,0)):=by rw [hW1,hz];exact heap_alloc_new w _
   have hBW:Below w.heap.size w W1:=by rw [hW1];exact below_alloc (Below.refl _ _) _
   have hcs:=copy_src (Kd.C_take (Kd.C_below hr0 hBW) hml) w.heap.size
   have htl:((l0.take m).map (Value.int .u8)).length=m:=by rw [List.length_map,List.length_take];omega
   have HW1:=z_ hW1
   have HM:=z_ hm
   have HML:=z_ hml
   have HTL:=z_ htl
   have HBW:=z_ hBW
   have HT:=z_ HTAIL
   have HCS:=z_ hcs
   have H1C:=z_ (show ∀v∈(l0.take m).map (Value.int .u8),v.oneCell'=true from fun v hv=>by obtain ⟨x,_,rfl⟩:=List.mem_map.1 hv;rfl)
   clear h hr0 hc0 hge h1 hlb hm hml htl hBW HTAIL hcs hz hW1
   obtain ⟨ov,hov⟩ : ∃ov,ov=a1%8:=⟨_,rfl⟩
   have hand:=and7 a1
   rw [<-hov] at hand
   have ov0:0<=ov:=by omega
   have ov8:ov<8:=by omega
   have HOV:=z_ hov
   clear hov
   by_cases hz:0<ov
   ·have hdv:decide (0<ov)=true:=decide_eq_true hz
    have HZ:=z_ hz
    clear hz
    go_enter Tryd.func77,Tryd.ntmps77
    go_wp2_with (first|((with_reducible refine gate_builtin (b:=.copy) (xs:=#[.tmp 21,.tmp 22]) rfl ?_);rw [<-HW1.out];go_must (refine wpList_copy_splice rfl (.tmp 21) (.tmp 22) 31 31 rfl 5 Tryd.underlying31 (by kernel_rfl) (some ⟨w.heap.size,0,none⟩) A0 m m l0.length c0 rfl rfl w.heap.size 0 (List.replicate m (.int .u8 0)) 5 HT.out ((l0.take m).map (Value.int .u8)) (HTL.out.trans (Nat.min_eq_right HML.out).symm) HCS.out (by rw [HTL.out];simp) H1C.out w.heap.size _ HBW.out (Nat.le_refl _) ?_;intro w2 HG2 hB2;rw [HTL.out];have HTB:=z_ (IsBytes.of_splice HG2.out);have HB2:=z_ hB2;clear HG2 hB2 hm1 hmk ha1 ha2 hl2 hd hd1)))
    obtain ⟨xs,hxs⟩ : ∃xs,xs=l0.take m:=⟨_,rfl⟩
    have hxl:xs.length=m:=by have:=HML.out;rw [hxs,List.length_take];omega
    have hTB:IsBytes w2 w.heap.size 5 xs:=by have:=HTB.out;rw [<-hxs,hxl,Nat.sub_self,List.replicate_zero,List.append_nil] at this;exact this
    have HTX:=z_ hTB
    have HXS:=z_ hxs
    obtain ⟨g,hg⟩ : ∃g,g=w.heap.size:=⟨_,rfl⟩
    rw [<-hg] at HTX
    rw [<-hg]
    have HG:=z_ hg
    clear hTB hxs hg HTB
    refine still_tail_at 11 (by kernel_rfl) (by kernel_rfl) (fun W hW=>?_)
    replace HTX:Aside0 (IsBytes W g 5 xs):=⟨by rw [hW];exact HTX.out⟩
    replace HB2:Aside0 (Below w.heap.size w W):=⟨by rw [hW];exact below_drew1 HB2.out⟩
    clear hW
    obtain ⟨j,hj⟩ : ∃j,j=m-1:=⟨_,rfl⟩
    have hjm:(m:Int)-1=(j:Int):=by omega
    have wj:IntKind.i64.wrap (j:Int)=(j:Int):=IntWalk.i64_in _ ⟨by omega,by omega⟩
    have qj:(j:Int)<(m:Int):=by omega
    have qj2:j<m:=by omega
    have pj:0<=(j:Int):=by omega
    have hc:=HTX.out.cell j (by omega)
    have hf:=HTX.out.frozen j
    obtain ⟨x,hx⟩ : ∃x,x=xs.getD j 0:=⟨_,rfl⟩
    rw [<-hx] at hc
    obtain ⟨s,hs⟩ : ∃s,s=8-ov:=⟨_,rfl⟩
    have hs2:8-ov=s:=hs.symm
    have ws:IntKind.i64.wrap s=s:=IntWalk.i64_in _ ⟨by omega,by omega⟩
    have s0:0<=s:=by omega
    have s8:s<=8:=by omega
    have HS:=z_ hs
    have HX:=z_ hx
    have HJ:=z_ hj
    have HXL:=z_ hxl
    clear hj hx hs hxl ov0 ov8 hmi hm0
    simp only [List.take_succ_cons,List.take_zero,List.drop_succ_cons,List.drop_zero]
    repeat still_step
    refine wpStill_nil ?_
    go_wp2_with fail
    go_ret
    have hfin:firstBits l0 a1.toNat=xs.set j (Go.bits .and .u8 x (255*2^s.toNat%256)):=by
     have hm:=HML.out
     have hz:=HZ.out
     have ho:=HOV.out
     have h1:=HA1.out
     have hov:((a1.toNat%8:Nat):Int)=ov:=by omega
     unfold firstBits
     rw [if_neg (by omega),<-HM.out,<-HXS.out,<-HJ.out,<-HX.out,hov]
     unfold cutByte
     rw [<-HS.out]
    rw [hfin]
    have hge:w.heap.size<=g:=by rw [HG.out];exact Nat.le_refl _
    exact ⟨_,rfl,(HTX.out.set j _).R hge (by rw [List.length_set];exact HXL.out) (by have:=HML.out;have:=HL.out;unfold maxLen;omega),HB2.out.setCell (by show w.heap.size<=g;exact hge) _⟩
   ·have hdv:decide (0<ov)=false:=decide_eq_false hz
    have hov0:ov=0:=by omega
    have HZ:=z_ hov0
    clear hz hov0
    go_enter Tryd.func77,Tryd.ntmps77
    go_wp2_with (first|((with_reducible refine gate_builtin (b:=.copy) (xs:=#[.tmp 21,.tmp 22]) rfl ?_);rw [<-HW1.out];go_must (refine wpList_copy_splice rfl (.tmp 21) (.tmp 22) 31 31 rfl 5 Tryd.underlying31 (by kernel_rfl) (some ⟨w.heap.size,0,none⟩) A0 m m l0.length c0 rfl rfl w.heap.size 0 (List.replicate m (.int .u8 0)) 5 HT.out ((l0.take m).map (Value.int .u8)) (HTL.out.trans (Nat.min_eq_right HML.out).symm) HCS.out (by rw [HTL.out];simp) H1C.out w.heap.size _ HBW.out (Nat.le_refl _) ?_;intro w2 HG2 hB2;rw [HTL.out];have HTB:=z_ (IsBytes.of_splice HG2.out);have HB2:=z_ hB2;clear HG2 hB2 hm1 hmk ha1 ha2 hl2 hd hd1)))
    go_ret
    have hxl:(l0.take m).length=m:=by have:=HML.out;rw [List.length_take];omega
    have hTB:IsBytes w2 w.heap.size 5 (l0.take m):=by have:=HTB.out;rw [hxl,Nat.sub_self,List.replicate_zero,List.append_nil] at this;exact this
    have hfin:firstBits l0 a1.toNat=l0.take m:=by
     unfold firstBits
     rw [if_pos (by have:=HZ.out;have:=HOV.out;have:=HA1.out;omega),<-HM.out]
    rw [hfin]
    exact ⟨_,rfl,hTB.R (Nat.le_refl _) hxl (by have:=HML.out;have:=HL.out;unfold maxLen;omega),HB2.out⟩
end Go.Proofs.YtdeneoknjeegbaaDoor.P
end
section
namespace Go.Proofs.YtdeneoknjeegbaaDoor.P
open Go.RowKit YtdeneoknjeegbaaDoorW.PrintWords YtdeneoknjeegbaaDoorW.PrintLast YtdeneoknjeegbaaDoorW.PrintMore
attribute [local go_sem] max2_int min2_int max_two min_two max_three min_three max_four min_four
def texts_Text.l0:Nat->List Int->List (List Int)->Int->Int->Option (List Int×Int)
 | 0,_,_,_,_=>none
 | k+1,x7,x22,x23,x24=>if x24<x23 then (if 0<=x24 then (if x24<(x22.length:Int) then ((some (([(((rd_L1 x22 x24).length:Int)/256)%256,(((rd_L1 x22 x24).length:Int))%256]:List Int):List Int)).bind fun y106=>(if x7.length+y106.length<140737488355328 then ((some (x7++y106:List Int)).bind fun y109=>(if y109.length+(rd_L1 x22 x24).length<140737488355328 then (texts_Text.l0 k (y109++(rd_L1 x22 x24)) x22 x23 (wrap64 (x24+1))) else (none))) else (none))) else (none)) else (none)) else (some (x7,0))
def texts_Text.f (k:Nat) (a0:Int) (l1:List (List Int)):Option (List Int×Int):=if a0=((a0)%256) then ((slices_ContainsFunc_byte_byte.f l1 101).bind fun t101=>(if t101=true then (some (([]:List Int),4)) else (texts_Text.l0 k (([(a0)%256]:List Int)) l1 (l1.length:Int) 0))) else (some (([]:List Int),1))
theorem texts_Text.mono_l : ∀k,(∀y0 y1 y2 y3,LeO (texts_Text.l0 k y0 y1 y2 y3) (texts_Text.l0 (k+1) y0 y1 y2 y3))
 | 0=>fun _ _ _ _ r h=>by simp [texts_Text.l0] at h
 | k+1=>by
   have ih0:=texts_Text.mono_l k
   ·intro y0 y1 y2 y3
    unfold texts_Text.l0
    repeat' first
    | (with_reducible exact ih0 _ _ _ _)
    | (with_reducible exact LeO.refl _)
    | (with_reducible exact LeO.none _)
    | (with_reducible refine LeO.ite ?_ ?_)
    | (with_reducible refine LeO.bind ?_ (fun _=>?_))
    | exact ih0 _ _ _ _
    | exact LeO.none _
    | refine LeO.ite ?_ ?_
    | refine LeO.bind ?_ (fun _=>?_)
theorem texts_Text.mono : ∀a0 a1 k,LeO (texts_Text.f k a0 a1) (texts_Text.f (k+1) a0 a1):=by
 intro a0 a1 k
 have ih0:=texts_Text.mono_l k
 unfold texts_Text.f
 repeat' first
  | (with_reducible exact ih0 _ _ _ _)
  | (with_reducible exact LeO.refl _)
  | (with_reducible exact LeO.none _)
  | (with_reducible refine LeO.ite ?_ ?_)
  | (with_reducible refine LeO.bind ?_ (fun _=>?_))
  | exact ih0 _ _ _ _
  | exact LeO.none _
  | refine LeO.ite ?_ ?_
  | refine LeO.bind ?_ (fun _=>?_)
set_option maxHeartbeats 8000000 in
set_option maxRecDepth 100000 in
theorem texts_Text.calls (k:Nat) (a0:Int) (A1:Option Addr) (c1:Nat) (l1:List (List Int)) (r1:List Int) (r2:Int) (w:World) (hr1:Kd.C (Kd.slice 5 (Kd.int .u8)) w A1 l1.length l1) (hc1:l1.length<=c1) (h:texts_Text.f k a0 l1=some (r1,r2)):
 Calls Tryd.prog 92 #[.int .i64 a0,.slice A1 l1.length c1] w fun e w'=>∃v0_:Value,e = .returned (.tuple #[v0_,.int .i64 r2])/\Kd.R (Kd.int .u8) 5 w' w.heap.size (fun _=>True) v0_ r1/\Below w.heap.size w w':=by
 have HR1:=z_ hr1
 have HC1:=z_ hc1
 clear hr1 hc1
 have HB:=z_ (Below.refl w.heap.size w)
 have H:(if a0=((a0)%256) then ((slices_ContainsFunc_byte_byte.f l1 101).bind fun t101=>(if t101=true then (some (([]:List Int),4)) else (texts_Text.l0 k (([(a0)%256]:List Int)) l1 (l1.length:Int) 0))) else (some (([]:List Int),1)))=some (r1,r2):=h
 clear h
 by_cases c3:a0=((a0)%256)
 ·rw [if_pos c3] at H
  have c3b0:(a0==((a0)%256))=true:=beq_iff_eq.mpr c3
  have c3b1:(a0 !=((a0)%256))=false:=bne_eq_false_iff_eq.mpr c3
  clear c3
  replace H:=Option.bind_eq_some_iff.mp H
  obtain ⟨t101,A40,H⟩:=H
  replace H:(if t101=true then (some (([]:List Int),4)) else (texts_Text.l0 k (([(a0)%256]:List Int)) l1 (l1.length:Int) 0))=some (r1,r2):=H
  have A4:=z_ A40
  clear A40
  by_cases c5:t101=true
  ·subst c5
   have H1:(some (([]:List Int),4))=some (r1,r2):=by rw [if_pos rfl] at H;exact H
   clear H
   have H:=H1
   clear H1
   simp only [Option.some.injEq,Prod.mk.injEq] at H
   obtain ⟨rfl,rfl⟩:=H
   go_enter Tryd.func92,Tryd.ntmps92
   go_wp2_with (first|((with_reducible refine gate_callee (f:=102) rfl ?_);refine goesL_ (some 18) rfl rfl Tryd.func102 (by kernel_rfl) rfl #[.slice A1 l1.length c1,.func (.func 101) #[] #[]] rfl (by (try simp only [List.map_toArray,List.map_cons,List.map_nil]);first|done|rfl|(simp only [List.length_drop,List.length_take];rfl)) ?_;(with_reducible refine (slices_ContainsFunc_byte_byte.calls _ _ l1 101 true _ ?side1 ?side2 A4.out).mono ?_);(case side1=>repeat (first|exact HR1.out|(with_reducible refine Kd.C_alloc ?_ _)|(with_reducible refine Kd.C_drewN ?_ _)|(with_reducible refine Kd.C_drew ?_)));(case side2=>exact HC1.out);rintro e w' ⟨rfl,⟨nd,rfl⟩⟩;refine ⟨_,rfl,?_⟩))
   go_ret2
   exact ⟨_,by first|rfl|(simp [errW_none,errW_some]<;>rfl)|(simp [*,errW_none,errW_some]<;>rfl),by first|exact Kd.R_nil _ _ _ _ _|exact Kd.N_nil _ _ _ _ _|exact Kd.V_nil _ _ _ _ _|exact Kd.Q_nil _ _ _ _ _|exact Kd.S_nil _ _ _ _ _,by repeat (first|(with_reducible first|exact HB.out|apply below_alloc|apply pw_below_drewN|apply below_drew1)|exact HB.out)⟩
  ·replace c5:=Bool.eq_false_iff.mpr c5
   subst c5
   have H1:(texts_Text.l0 k (([(a0)%256]:List Int)) l1 (l1.length:Int) 0)=some (r1,r2):=by rw [if_neg (show ¬(false=true) by decide)] at H;exact H
   clear H
   have H:=H1
   clear H1
   obtain ⟨y102,hy102⟩ : ∃y_:List Int,y_=(([(a0)%256]:List Int)):=⟨_,rfl⟩
   replace H:(texts_Text.l0 k y102 l1 (l1.length:Int) 0)=some (r1,r2):=by first|(rw [hy102];with_reducible exact H)|(have H2_:=(Option.bind_some _ _).symm.trans H;rw [hy102];with_reducible exact H2_)|(have H2_:=(Option.bind_some _ _).symm.trans H;with_reducible exact H2_)|with_reducible exact H|(rw [hy102];exact H)|exact H
   have Ny102:=z_ hy102
   clear hy102
   have H':=z_ H
   clear H
   go_enter Tryd.func92,Tryd.ntmps92
   go_wp2_with (first|((with_reducible refine gate_callee (f:=102) rfl ?_);refine goesL_ (some 18) rfl rfl Tryd.func102 (by kernel_rfl) rfl #[.slice A1 l1.length c1,.func (.func 101) #[] #[]] rfl (by (try simp only [List.map_toArray,List.map_cons,List.map_nil]);first|done|rfl|(simp only [List.length_drop,List.length_take];rfl)) ?_;(with_reducible refine (slices_ContainsFunc_byte_byte.calls _ _ l1 101 false _ ?side1 ?side2 A4.out).mono ?_);(case side1=>repeat (first|exact HR1.out|(with_reducible refine Kd.C_alloc ?_ _)|(with_reducible refine Kd.C_drewN ?_ _)|(with_reducible refine Kd.C_drew ?_)));(case side2=>exact HC1.out);rintro e w' ⟨rfl,⟨nd,rfl⟩⟩;refine ⟨_,rfl,?_⟩)|((with_reducible refine gate_dst (N:=21) rfl ?_);refine Kd.R_lit (Kd.int .u8) _ 5 ?hg (N:=21) ?hd (xs:=([(a0)%256]:List Int)) (inner:=[.int .u8 ((a0)%256)]) (ok:=fun _=>True) (okp:=fun _=>True) ?hr ?hp (fun _ hk=>hk) trivial (Below.refl _ _) (Nat.le_refl _) (by simp) ?_;(case hd=>rfl);(case hg=>rfl);(case hr=>first|(go_simp;done)|(go_simp;rfl));(case hp=>exact (Reps.one (show Kd.M (Kd.int .u8) _ _ _ ((a0)%256) [.int .u8 ((a0)%256)] from rfl) (Reps.none _ _)));intro v103 w6 ho7 hb hg_ hnew_;clear hg_ hnew_;(first|rw [<-Ny102.out] at ho7|(simp only [Int.reduceToNat] at ho7;rw [<-Ny102.out] at ho7));have n0_:=z_ (Kd.R_lower ho7 (below_size (by repeat (first|(with_reducible first|exact HB.out|apply below_alloc|apply pw_below_drewN|apply below_drew1)|exact HB.out))));have n1_:=z_ (below_step (by repeat (first|(with_reducible first|exact HB.out|apply below_alloc|apply pw_below_drewN|apply below_drew1)|exact HB.out)) hb);clear HB;have HO104:=n0_;have HB:=n1_;clear n0_ n1_;clear hb ho7))
   go_loopg [7,24] k (fun kq v7 v24 w'=>∃(x7_1:List Int) (x24_1:Int),v24 = .int .i64 x24_1/\Aside0 (texts_Text.l0 kq x7_1 l1 (l1.length:Int) x24_1=some (r1,r2))/\Aside0 (kq<=k)/\Aside0 (Kd.R (Kd.int .u8) 5 w' w.heap.size (fun _=>True) v7 x7_1)/\Aside0 (Below w.heap.size w w'))
   case atStart=>exact ⟨(y102),(0),(by first|rfl|(simp;done)|(simp [*];done)),H',⟨Nat.le_refl _⟩,⟨by (with_reducible repeat (first|apply Kd.R_alloc|apply Kd.R_drewN|apply Kd.R_drew));exact HO104.out⟩,⟨by repeat (first|(with_reducible first|exact HB.out|apply below_alloc|apply pw_below_drewN|apply below_drew1)|exact HB.out)⟩⟩
   case round=>
    clear H'
    try clear c1
    try clear p2
    try clear c3
    try clear c3b0
    try clear c3b1
    try clear c5
    obtain ⟨x7_1,x24_1,rfl,HA,HK1,HO_7,HB⟩:=hrel
    cases gk with
    | zero=>exact absurd HA.out (by simp [texts_Text.l0])
    | succ k1=>
      have H:=HA.out
      clear HA
      simp only [texts_Text.l0] at H
      by_cases c8:x24_1<(l1.length:Int)
      ·rw [if_pos c8] at H
       have c8b0:decide (x24_1<(l1.length:Int))=true:=decide_eq_true c8
       clear c8
       by_cases c9:0<=x24_1
       ·rw [if_pos c9] at H
        have c9b0:decide (0<=x24_1)=true:=decide_eq_true c9
        clear c9
        by_cases c10:x24_1<(l1.length:Int)
        ·rw [if_pos c10] at H
         have c10b0:decide (x24_1<(l1.length:Int))=true:=decide_eq_true c10
         clear c10
         obtain ⟨y106,hy106⟩ : ∃y_:List Int,y_=(([(((rd_L1 l1 x24_1).length:Int)/256)%256,(((rd_L1 l1 x24_1).length:Int))%256]:List Int)):=⟨_,rfl⟩
         replace H:(if x7_1.length+y106.length<140737488355328 then ((some (x7_1++y106:List Int)).bind fun y109=>(if y109.length+(rd_L1 l1 x24_1).length<140737488355328 then (texts_Text.l0 k1 (y109++(rd_L1 l1 x24_1)) l1 (l1.length:Int) (wrap64 (x24_1+1))) else (none))) else (none))=some (r1,r2):=by first|(rw [hy106];with_reducible exact H)|(have H2_:=(Option.bind_some _ _).symm.trans H;rw [hy106];with_reducible exact H2_)|(have H2_:=(Option.bind_some _ _).symm.trans H;with_reducible exact H2_)|with_reducible exact H|(rw [hy106];exact H)|exact H
         have Ny106:=z_ hy106
         clear hy106
         by_cases c11:x7_1.length+y106.length<140737488355328
         ·rw [if_pos c11] at H
          have LMc11:=z_ c11
          clear c11
          obtain ⟨y109,hy109⟩ : ∃y_:List Int,y_=(x7_1++y106):=⟨_,rfl⟩
          replace H:(if y109.length+(rd_L1 l1 x24_1).length<140737488355328 then (texts_Text.l0 k1 (y109++(rd_L1 l1 x24_1)) l1 (l1.length:Int) (wrap64 (x24_1+1))) else (none))=some (r1,r2):=by first|(rw [hy109];with_reducible exact H)|(have H2_:=(Option.bind_some _ _).symm.trans H;rw [hy109];with_reducible exact H2_)|(have H2_:=(Option.bind_some _ _).symm.trans H;with_reducible exact H2_)|with_reducible exact H|(rw [hy109];exact H)|exact H
          have Ny109:=z_ hy109
          clear hy109
          by_cases c12:y109.length+(rd_L1 l1 x24_1).length<140737488355328
          ·rw [if_pos c12] at H
           have LMc12:=z_ c12
           clear c12
           obtain ⟨y112,hy112⟩ : ∃y_:List Int,y_=(y109++(rd_L1 l1 x24_1)):=⟨_,rfl⟩
           replace H:(texts_Text.l0 k1 y112 l1 (l1.length:Int) (wrap64 (x24_1+1)))=some (r1,r2):=by first|(rw [hy112];with_reducible exact H)|(have H2_:=(Option.bind_some _ _).symm.trans H;rw [hy112];with_reducible exact H2_)|(have H2_:=(Option.bind_some _ _).symm.trans H;with_reducible exact H2_)|with_reducible exact H|(rw [hy112];exact H)|exact H
           have Ny112:=z_ hy112
           clear hy112
           have H':=z_ H
           clear H
           have p105:0<=(x24_1:Int):=of_decide_eq_true (by first|(with_reducible assumption)|assumption)
           have q105:x24_1<(l1.length:Int):=of_decide_eq_true (by first|(with_reducible assumption)|assumption)
           obtain ⟨ad105,A105_0,c105_0,e105,hx105_0,hl105_0,hi105_0⟩:=at_L1 HR1.out x24_1 p105 q105
           cases e105
           replace hx105_0:=(HB.out.cell (World.block_lt_of_cell? w _ hx105_0)).trans hx105_0
           have HR105_0:=z_ hi105_0
           have HC105_0:=z_ hl105_0
           clear hi105_0 hl105_0
           replace p105:=eq_true p105
           replace q105:=eq_true q105
           go_wp2_with (first|((with_reducible refine gate_dst (N:=36) rfl ?_);refine Kd.R_lit (Kd.int .u8) _ 5 ?hg (N:=36) ?hd (xs:=([(((rd_L1 l1 x24_1).length:Int)/256)%256,(((rd_L1 l1 x24_1).length:Int))%256]:List Int)) (inner:=[.int .u8 ((((rd_L1 l1 x24_1).length:Int)/256)%256),.int .u8 ((((rd_L1 l1 x24_1).length:Int))%256)]) (ok:=fun _=>True) (okp:=fun _=>True) ?hr ?hp (fun _ hk=>hk) trivial (Below.refl _ _) (Nat.le_refl _) (by simp) ?_;(case hd=>rfl);(case hg=>rfl);(case hr=>first|(go_simp;done)|(go_simp;rfl));(case hp=>exact (Reps.one (show Kd.M (Kd.int .u8) _ _ _ ((((rd_L1 l1 x24_1).length:Int)/256)%256) [.int .u8 ((((rd_L1 l1 x24_1).length:Int)/256)%256)] from rfl) (Reps.one (show Kd.M (Kd.int .u8) _ _ _ ((((rd_L1 l1 x24_1).length:Int))%256) [.int .u8 ((((rd_L1 l1 x24_1).length:Int))%256)] from rfl) (Reps.none _ _))));intro v107 w13 ho14 hb hg_ hnew_;clear hg_ hnew_;(first|rw [<-Ny106.out] at ho14|(simp only [Int.reduceToNat] at ho14;rw [<-Ny106.out] at ho14));have n0_:=z_ (Kd.R_elder' (by (with_reducible repeat (first|apply Kd.R_alloc|apply Kd.R_drewN|apply Kd.R_drew));exact HO_7.out) (Kd.R_base ho14) hb);have n1_:=z_ (Kd.R_lower (Kd.R_new' ho14 (Kd.R_lt (by (with_reducible repeat (first|apply Kd.R_alloc|apply Kd.R_drewN|apply Kd.R_drew));exact HO_7.out))) (below_size (by repeat (first|(with_reducible first|exact HB.out|apply below_alloc|apply pw_below_drewN|apply below_drew1)|exact HB.out))));have n2_:=z_ (below_step (by repeat (first|(with_reducible first|exact HB.out|apply below_alloc|apply pw_below_drewN|apply below_drew1)|exact HB.out)) hb);clear HO_7;clear HB;have HO_7:=n0_;have HO108:=n1_;have HB:=n2_;clear n0_ n1_ n2_;clear hb ho14;obtain ⟨Ao16,co16,eo16⟩:=Kd.R_slice HO108.out;subst eo16)|((with_reducible refine gate_builtin (b:=.append) (xs:=#[.tmp 30,.tmp 36]) rfl ?_);at_builtin;refine Kd.R_append_rows (Kd.int .u8) (w0:=w) w.heap.size rfl (.tmp 30) (.tmp 36) 31 5 (.int .u8 0) 1 rfl Tryd.underlying31 info5 rfl (by decide) (by omega) u7 x7_1 y106 _ _ _ (fun k_=>some k_≠(.slice Ao16 y106.length co16:Value).ownBlock) (fun _=>False) rfl rfl ?aO ?aR (fun _ _ h=>h) (fun _ h=>h.elim) ?aF ?aB ?aS ?aL ?_;(case aR=>repeat (first|exact (Kd.R_reads' HO108.out).2.2|(with_reducible refine Kd.C_alloc ?_ _)|(with_reducible refine Kd.C_drewN ?_ _)|(with_reducible refine Kd.C_drew ?_)));(case aB=>exact (by repeat (first|(with_reducible first|exact HB.out|apply below_alloc|apply pw_below_drewN|apply below_drew1)|exact HB.out)));(case aF=>exact (fun k_ hk=>Kd.fresh' (Kd.R_lt (by (with_reducible repeat (first|apply Kd.R_alloc|apply Kd.R_drewN|apply Kd.R_drew));exact HO108.out)) k_ hk));(case aO=>exact (by (with_reducible repeat (first|apply Kd.R_alloc|apply Kd.R_drewN|apply Kd.R_drew));exact Kd.R_mono HO_7.out (fun _ hk=>hk.2)));(case aS=>exact (below_size (by repeat (first|(with_reducible first|exact HB.out|apply below_alloc|apply pw_below_drewN|apply below_drew1)|exact HB.out))));(case aL=>have:=LMc11.out;omega);intro v110 w15 ho hb hg hat;rw [<-Ny109.out] at ho;have n0_:=z_ (Kd.R_after (ok:=(fun _=>True)) (by (with_reducible repeat (first|apply Kd.R_alloc|apply Kd.R_drewN|apply Kd.R_drew));exact HO108.out) hg hat);have n1_:=z_ (hb);have n2_:=z_ (ho);clear HO108;clear HB;clear HO_7;have HO108:=n0_;have HB:=n1_;have HO111:=n2_;clear n0_ n1_ n2_;clear ho hb hg hat)|((with_reducible refine gate_builtin (b:=.append) (xs:=#[.tmp 38,.tmp 39]) rfl ?_);at_builtin;refine Kd.R_append_rows (Kd.int .u8) (w0:=w) w.heap.size rfl (.tmp 38) (.tmp 39) 31 5 (.int .u8 0) 1 rfl Tryd.underlying31 info5 rfl (by decide) (by omega) v110 y109 (rd_L1 l1 x24_1) _ _ _ (fun k_=>some k_≠(.slice Ao16 y106.length co16:Value).ownBlock) (fun _=>False) rfl rfl ?aO ?aR (fun _ _ h=>h) (fun _ h=>h.elim) ?aF ?aB ?aS ?aL ?_;(case aR=>repeat (first|exact (Kd.C_below HR105_0.out HB.out)|(with_reducible refine Kd.C_alloc ?_ _)|(with_reducible refine Kd.C_drewN ?_ _)|(with_reducible refine Kd.C_drew ?_)));(case aB=>exact (by repeat (first|(with_reducible first|exact HB.out|apply below_alloc|apply pw_below_drewN|apply below_drew1)|exact HB.out)));(case aF=>exact (fun k_ hk=>Kd.fresh' (Kd.R_lt (by (with_reducible repeat (first|apply Kd.R_alloc|apply Kd.R_drewN|apply Kd.R_drew));exact HO108.out)) k_ hk));(case aO=>exact (by (with_reducible repeat (first|apply Kd.R_alloc|apply Kd.R_drewN|apply Kd.R_drew));exact HO111.out));(case aS=>exact (below_size (by repeat (first|(with_reducible first|exact HB.out|apply below_alloc|apply pw_below_drewN|apply below_drew1)|exact HB.out))));(case aL=>have:=LMc12.out;omega);intro v113 w17 ho hb hg hat;rw [<-Ny112.out] at ho;have n0_:=z_ (Kd.R_after (ok:=(fun _=>True)) (by (with_reducible repeat (first|apply Kd.R_alloc|apply Kd.R_drewN|apply Kd.R_drew));exact HO108.out) hg hat);have n1_:=z_ (hb);have n2_:=z_ (ho);clear HO108;clear HB;clear HO111;have HO108:=n0_;have HB:=n1_;have HO114:=n2_;clear n0_ n1_ n2_;clear ho hb hg hat))
           go_roundg k1
           case measure=>have:=HK1.out;omega
           case rel=>exact ⟨(y112),(wrap64 (x24_1+1)),(by first|rfl|(simp;done)|(simp [*];done)),H',⟨by have:=HK1.out;omega⟩,⟨by (with_reducible repeat (first|apply Kd.R_alloc|apply Kd.R_drewN|apply Kd.R_drew));exact Kd.R_mono HO114.out (fun _ hk=>trivial)⟩,⟨by repeat (first|(with_reducible first|exact HB.out|apply below_alloc|apply pw_below_drewN|apply below_drew1)|exact HB.out)⟩⟩
          ·rw [if_neg c12] at H
           exact absurd H (by simp)
         ·rw [if_neg c11] at H
          exact absurd H (by simp)
        ·rw [if_neg c10] at H
         exact absurd H (by simp)
       ·rw [if_neg c9] at H
        exact absurd H (by simp)
      ·rw [if_neg c8] at H
       have c8b0:decide (x24_1<(l1.length:Int))=false:=decide_eq_false c8
       clear c8
       simp only [Option.some.injEq,Prod.mk.injEq] at H
       obtain ⟨rfl,rfl⟩:=H
       go_wp2
       go_ret2
       exact ⟨_,by first|rfl|(simp [errW_none,errW_some]<;>rfl)|(simp [*,errW_none,errW_some]<;>rfl),by (with_reducible repeat (first|apply Kd.R_alloc|apply Kd.R_drewN|apply Kd.R_drew));exact HO_7.out,by repeat (first|(with_reducible first|exact HB.out|apply below_alloc|apply pw_below_drewN|apply below_drew1)|exact HB.out)⟩
 ·rw [if_neg c3] at H
  have c3b0:(a0==((a0)%256))=false:=beq_eq_false_iff_ne.mpr c3
  have c3b1:(a0 !=((a0)%256))=true:=bne_iff_ne.mpr c3
  simp only [Option.some.injEq,Prod.mk.injEq] at H
  obtain ⟨rfl,rfl⟩:=H
  go_enter Tryd.func92,Tryd.ntmps92
  go_wp2
  go_ret2
  exact ⟨_,by first|rfl|(simp [errW_none,errW_some]<;>rfl)|(simp [*,errW_none,errW_some]<;>rfl),by first|exact Kd.R_nil _ _ _ _ _|exact Kd.N_nil _ _ _ _ _|exact Kd.V_nil _ _ _ _ _|exact Kd.Q_nil _ _ _ _ _|exact Kd.S_nil _ _ _ _ _,by repeat (first|(with_reducible first|exact HB.out|apply below_alloc|apply pw_below_drewN|apply below_drew1)|exact HB.out)⟩
def texts_Hash.f (k:Nat) (a0:Int) (a1:Int) (l2:List (List Int)):Option (List Int):=(texts_Text.f k a1 l2).bind fun bt120=>(if bt120.2=0 then ((sha_Cut.f a0 bt120.1).bind fun t124=>(some t124)) else (some ([]:List Int)))
theorem texts_Hash.mono : ∀a0 a1 a2 k,LeO (texts_Hash.f k a0 a1 a2) (texts_Hash.f (k+1) a0 a1 a2):=by
 intro a0 a1 a2 k
 unfold texts_Hash.f
 repeat' first
  | (with_reducible exact texts_Text.mono _ _ _)
  | (with_reducible exact LeO.refl _)
  | (with_reducible exact LeO.none _)
  | (with_reducible refine LeO.ite ?_ ?_)
  | (with_reducible refine LeO.bind ?_ (fun _=>?_))
  | exact texts_Text.mono _ _ _
  | exact LeO.none _
  | refine LeO.ite ?_ ?_
  | refine LeO.bind ?_ (fun _=>?_)
set_option maxHeartbeats 8000000 in
set_option maxRecDepth 100000 in
theorem texts_Hash.calls (k:Nat) (a0:Int) (a1:Int) (A2:Option Addr) (c2:Nat) (l2:List (List Int)) (r:List Int) (w:World) (hr2:Kd.C (Kd.slice 5 (Kd.int .u8)) w A2 l2.length l2) (hc2:l2.length<=c2) (hGS:GlobS w) (h:texts_Hash.f k a0 a1 l2=some r):
 Calls Tryd.prog 70 #[.int .i64 a0,.int .i64 a1,.slice A2 l2.length c2] w fun e w'=>∃v0_:Value,e = .returned (v0_)/\Kd.V (Kd.int .u8) 5 w' w.heap.size (fun k_=>(w.heap.size<=k_)) v0_ r/\Below w.heap.size w w':=by
 have HGS:=z_ hGS
 clear hGS
 have HR2:=z_ hr2
 have HC2:=z_ hc2
 clear hr2 hc2
 have HB:=z_ (Below.refl w.heap.size w)
 have H:((texts_Text.f k a1 l2).bind fun bt120=>(if bt120.2=0 then ((sha_Cut.f a0 bt120.1).bind fun t124=>(some t124)) else (some ([]:List Int))))=some r:=h
 clear h
 replace H:=Option.bind_eq_some_iff.mp H
 obtain ⟨⟨t120,t121⟩,A40,H⟩:=H
 replace H:(if t121=0 then ((sha_Cut.f a0 t120).bind fun t124=>(some t124)) else (some ([]:List Int)))=some r:=H
 have A4:=z_ A40
 clear A40
 by_cases c5:t121=0
 ·rw [if_pos c5] at H
  have c5b0:(t121==0)=true:=beq_iff_eq.mpr c5
  have c5b1:(t121 !=0)=false:=bne_eq_false_iff_eq.mpr c5
  clear c5
  replace H:=Option.bind_eq_some_iff.mp H
  obtain ⟨t124,A60,H⟩:=H
  replace H:(some t124)=some r:=H
  have A6:=z_ A60
  clear A60
  obtain rfl:=Option.some.inj H
  go_enter Tryd.func70,Tryd.ntmps70
  go_wp2_with (first|((with_reducible refine gate_callee (f:=92) rfl ?_);refine goesL_ (some 12) rfl rfl Tryd.func92 (by kernel_rfl) rfl #[.int .i64 a1,.slice A2 l2.length c2] rfl (by (try simp only [List.map_toArray,List.map_cons,List.map_nil]);first|done|rfl|(simp only [List.length_drop,List.length_take];rfl)) ?_;(with_reducible refine (texts_Text.calls k a1 _ _ l2 t120 t121 _ ?side1 ?side2 A4.out).mono ?_);(case side1=>repeat (first|exact HR2.out|(with_reducible refine Kd.C_alloc ?_ _)|(with_reducible refine Kd.C_drewN ?_ _)|(with_reducible refine Kd.C_drew ?_)));(case side2=>exact HC2.out);rintro e w7 ⟨v122,rfl,ho0,hb⟩;refine ⟨_,rfl,?_⟩;have n0_:=z_ (Kd.R_lower (Kd.R_newM (M:=fun k_=>(w.heap.size<=k_)) ho0 (below_size (by repeat (first|(with_reducible first|exact HB.out|apply below_alloc|apply pw_below_drewN|apply below_drew1)|exact HB.out))) (fun k_ h_=>h_)) (below_size (by repeat (first|(with_reducible first|exact HB.out|apply below_alloc|apply pw_below_drewN|apply below_drew1)|exact HB.out))));have n1_:=z_ (below_step (by repeat (first|(with_reducible first|exact HB.out|apply below_alloc|apply pw_below_drewN|apply below_drew1)|exact HB.out)) hb);clear HB;have HO123:=n0_;have HB:=n1_;clear n0_ n1_;(try clear hb);(try clear hb2);(try clear hk);(try clear hi);(try clear ho0);obtain ⟨Ao8,co8,eo8⟩:=Kd.R_slice HO123.out;subst eo8)|((with_reducible refine gate_callee (f:=93) rfl ?_);refine goesL_ (some 19) rfl rfl Tryd.func93 (by kernel_rfl) rfl #[.int .i64 a0,.slice Ao8 t120.length co8] rfl (by (try simp only [List.map_toArray,List.map_cons,List.map_nil]);first|done|rfl|(simp only [List.length_drop,List.length_take];rfl)) ?_;(with_reducible refine (sha_Cut.calls a0 _ _ t120 t124 _ ?side1 ?side2 (by first|(with_reducible exact HGS.out)|exact GlobS.of HGS.out (by repeat (first|(with_reducible first|exact HB.out|apply below_alloc|apply pw_below_drewN|apply below_drew1)|exact HB.out))|exact GlobS.of HGS.out (by repeat (first|exact Below.refl _ _|apply below_alloc|apply pw_below_drewN|apply below_drew1))) A6.out).mono ?_);(case side1=>repeat (first|exact (Kd.R_reads' HO123.out).2.2|(with_reducible refine Kd.C_alloc ?_ _)|(with_reducible refine Kd.C_drewN ?_ _)|(with_reducible refine Kd.C_drew ?_)));(case side2=>exact (Kd.R_reads' HO123.out).2.1);rintro e w9 ⟨v125,rfl,ho0,hb⟩;refine ⟨_,rfl,?_⟩;have n0_:=z_ (Kd.R_below (by (with_reducible repeat (first|apply Kd.R_alloc|apply Kd.R_drewN|apply Kd.R_drew));exact HO123.out) hb);have n1_:=z_ (Kd.V_lower (Kd.V_mono (ok':=fun k_=>(w.heap.size<=k_)/\some k_≠(.slice Ao8 t120.length co8:Value).ownBlock) ho0 (fun k_ hk_=>⟨(Nat.le_trans (below_size (by repeat (first|(with_reducible first|exact HB.out|apply below_alloc|apply pw_below_drewN|apply below_drew1)|exact HB.out))) hk_),(Kd.fresh' (Kd.R_lt (by (with_reducible repeat (first|apply Kd.R_alloc|apply Kd.R_drewN|apply Kd.R_drew));exact HO123.out)) k_ hk_)⟩)) (below_size (by repeat (first|(with_reducible first|exact HB.out|apply below_alloc|apply pw_below_drewN|apply below_drew1)|exact HB.out))));have n2_:=z_ (below_step (by repeat (first|(with_reducible first|exact HB.out|apply below_alloc|apply pw_below_drewN|apply below_drew1)|exact HB.out)) hb);clear HO123;clear HB;have HO123:=n0_;have HO126:=n1_;have HB:=n2_;clear n0_ n1_ n2_;(try clear hb);(try clear hb2);(try clear hk);(try clear hi);(try clear ho0)))
  go_ret
  exact ⟨_,by first|rfl|(simp [errW_none,errW_some]<;>rfl)|(simp [*,errW_none,errW_some]<;>rfl),by (with_reducible repeat (first|apply Kd.V_alloc|apply Kd.V_drewN|apply Kd.V_drew));exact Kd.V_mono HO126.out (fun _ hk=>hk.1),by repeat (first|(with_reducible first|exact HB.out|apply below_alloc|apply pw_below_drewN|apply below_drew1)|exact HB.out)⟩
 ·rw [if_neg c5] at H
  have c5b0:(t121==0)=false:=beq_eq_false_iff_ne.mpr c5
  have c5b1:(t121 !=0)=true:=bne_iff_ne.mpr c5
  obtain rfl:=Option.some.inj H
  go_enter Tryd.func70,Tryd.ntmps70
  go_wp2_with (first|((with_reducible refine gate_callee (f:=92) rfl ?_);refine goesL_ (some 12) rfl rfl Tryd.func92 (by kernel_rfl) rfl #[.int .i64 a1,.slice A2 l2.length c2] rfl (by (try simp only [List.map_toArray,List.map_cons,List.map_nil]);first|done|rfl|(simp only [List.length_drop,List.length_take];rfl)) ?_;(with_reducible refine (texts_Text.calls k a1 _ _ l2 t120 t121 _ ?side1 ?side2 A4.out).mono ?_);(case side1=>repeat (first|exact HR2.out|(with_reducible refine Kd.C_alloc ?_ _)|(with_reducible refine Kd.C_drewN ?_ _)|(with_reducible refine Kd.C_drew ?_)));(case side2=>exact HC2.out);rintro e w10 ⟨v122,rfl,ho0,hb⟩;refine ⟨_,rfl,?_⟩;have n0_:=z_ (Kd.R_lower (Kd.R_newM (M:=fun k_=>(w.heap.size<=k_)) ho0 (below_size (by repeat (first|(with_reducible first|exact HB.out|apply below_alloc|apply pw_below_drewN|apply below_drew1)|exact HB.out))) (fun k_ h_=>h_)) (below_size (by repeat (first|(with_reducible first|exact HB.out|apply below_alloc|apply pw_below_drewN|apply below_drew1)|exact HB.out))));have n1_:=z_ (below_step (by repeat (first|(with_reducible first|exact HB.out|apply below_alloc|apply pw_below_drewN|apply below_drew1)|exact HB.out)) hb);clear HB;have HO123:=n0_;have HB:=n1_;clear n0_ n1_;(try clear hb);(try clear hb2);(try clear hk);(try clear hi);(try clear ho0)))
  go_ret
  exact ⟨_,by first|rfl|(simp [errW_none,errW_some]<;>rfl)|(simp [*,errW_none,errW_some]<;>rfl),(by first|exact Kd.V_nil _ _ _ _ _|exact Kd.R_V (by first|exact Kd.R_nil _ _ _ _ _|exact Kd.N_nil _ _ _ _ _|exact Kd.Q_nil _ _ _ _ _|exact Kd.S_nil _ _ _ _ _)),by repeat (first|(with_reducible first|exact HB.out|apply below_alloc|apply pw_below_drewN|apply below_drew1)|exact HB.out)⟩
def annalsref01_Cut.f (a0:Int) (l1:List Int):Option (List Int):=(annalsref01_Sum.f l1).bind fun t172=>(if 0<=(mx 0 (mn a0 32)) then (if (mx 0 (mn a0 32))<=(t172.length:Int) then (some (t172.take ((mx 0 (mn a0 32)):Int).toNat)) else (none)) else (none))
mutual
def annalsref02_Text.j0:Nat->Int->List (List Int)->Bool->Option (List Int×Int)
 | 0,_,_,_=>none
 | k+1,x0,x1,x14=>if x14=true then (some (([]:List Int),1)) else (annalsref02_Text.l0 k (([(x0)%256]:List Int)) x1 (x1.length:Int) 0)
def annalsref02_Text.l0:Nat->List Int->List (List Int)->Int->Int->Option (List Int×Int)
 | 0,_,_,_,_=>none
 | k+1,x6,x18,x19,x20=>if x20<x19 then (if 0<=x20 then (if x20<(x18.length:Int) then (if ((rd_L1 x18 x20).length:Int)>65535 then (some (([]:List Int),4)) else ((some (([(((rd_L1 x18 x20).length:Int)/256)%256,(((rd_L1 x18 x20).length:Int))%256]:List Int):List Int)).bind fun y159=>(if x6.length+y159.length<140737488355328 then ((some (x6++y159:List Int)).bind fun y162=>(if y162.length+(rd_L1 x18 x20).length<140737488355328 then (annalsref02_Text.l0 k (y162++(rd_L1 x18 x20)) x18 x19 (wrap64 (x20+1))) else (none))) else (none)))) else (none)) else (none)) else (some (x6,0))
end
def annalsref02_Text.f (k:Nat) (a0:Int) (l1:List (List Int)):Option (List Int×Int):=if a0<0 then (annalsref02_Text.j0 k a0 l1 true) else (annalsref02_Text.j0 k a0 l1 (decide (a0>255)))
theorem annalsref02_Text.mono_l : ∀k,(∀y0 y1 y2,LeO (annalsref02_Text.j0 k y0 y1 y2) (annalsref02_Text.j0 (k+1) y0 y1 y2))/\(∀y0 y1 y2 y3,LeO (annalsref02_Text.l0 k y0 y1 y2 y3) (annalsref02_Text.l0 (k+1) y0 y1 y2 y3))
 | 0=>⟨fun _ _ _ r h=>by simp [annalsref02_Text.j0] at h,fun _ _ _ _ r h=>by simp [annalsref02_Text.l0] at h⟩
 | k+1=>by
   obtain ⟨ih0,ih1⟩:=annalsref02_Text.mono_l k
   refine ⟨?_,?_⟩
   ·intro y0 y1 y2
    unfold annalsref02_Text.j0
    repeat' first
    | (with_reducible exact ih0 _ _ _)
    | (with_reducible exact ih1 _ _ _ _)
    | (with_reducible exact LeO.refl _)
    | (with_reducible exact LeO.none _)
    | (with_reducible refine LeO.ite ?_ ?_)
    | (with_reducible refine LeO.bind ?_ (fun _=>?_))
    | exact ih0 _ _ _
    | exact ih1 _ _ _ _
    | exact LeO.none _
    | refine LeO.ite ?_ ?_
    | refine LeO.bind ?_ (fun _=>?_)
   ·intro y0 y1 y2 y3
    unfold annalsref02_Text.l0
    repeat' first
    | (with_reducible exact ih0 _ _ _)
    | (with_reducible exact ih1 _ _ _ _)
    | (with_reducible exact LeO.refl _)
    | (with_reducible exact LeO.none _)
    | (with_reducible refine LeO.ite ?_ ?_)
    | (with_reducible refine LeO.bind ?_ (fun _=>?_))
    | exact ih0 _ _ _
    | exact ih1 _ _ _ _
    | exact LeO.none _
    | refine LeO.ite ?_ ?_
    | refine LeO.bind ?_ (fun _=>?_)
theorem annalsref02_Text.mono : ∀a0 a1 k,LeO (annalsref02_Text.f k a0 a1) (annalsref02_Text.f (k+1) a0 a1):=by
 intro a0 a1 k
 obtain ⟨ih0,ih1⟩:=annalsref02_Text.mono_l k
 unfold annalsref02_Text.f
 repeat' first
  | (with_reducible exact ih0 _ _ _)
  | (with_reducible exact ih1 _ _ _ _)
  | (with_reducible exact LeO.refl _)
  | (with_reducible exact LeO.none _)
  | (with_reducible refine LeO.ite ?_ ?_)
  | (with_reducible refine LeO.bind ?_ (fun _=>?_))
  | exact ih0 _ _ _
  | exact ih1 _ _ _ _
  | exact LeO.none _
  | refine LeO.ite ?_ ?_
  | refine LeO.bind ?_ (fun _=>?_)
def annalsref02_Hash.f (k:Nat) (a0:Int) (a1:Int) (l2:List (List Int)):Option (List Int):=(annalsref02_Text.f k a1 l2).bind fun bt178=>(if bt178.2=0 then ((annalsref01_Cut.f a0 bt178.1).bind fun t182=>(some t182)) else (some ([]:List Int)))
theorem annalsref02_Hash.mono : ∀a0 a1 a2 k,LeO (annalsref02_Hash.f k a0 a1 a2) (annalsref02_Hash.f (k+1) a0 a1 a2):=by
 intro a0 a1 a2 k
 unfold annalsref02_Hash.f
 repeat' first
  | (with_reducible exact annalsref02_Text.mono _ _ _)
  | (with_reducible exact LeO.refl _)
  | (with_reducible exact LeO.none _)
  | (with_reducible refine LeO.ite ?_ ?_)
  | (with_reducible refine LeO.bind ?_ (fun _=>?_))
  | exact annalsref02_Text.mono _ _ _
  | exact LeO.none _
  | refine LeO.ite ?_ ?_
  | refine LeO.bind ?_ (fun _=>?_)
def annalsref02_Number.l0:Nat->Int->List Int->Int->Option (List Int)
 | 0,_,_,_=>none
 | k+1,x0,x3,x4=>if x4>=0 then (if 0<=x4 then (if x3.length<140737488355328 then (annalsref02_Number.l0 k x0 (x3++[(shr .u64 (IntKind.u64.wrap (x0)) x4)%256]) (wrap64 (x4-8))) else (none)) else (none)) else (some x3)
def annalsref02_Number.f (k:Nat) (a0:Int):Option (List Int):=annalsref02_Number.l0 k a0 ([]:List Int) 56
theorem annalsref02_Number.mono_l : ∀k,(∀y0 y1 y2,LeO (annalsref02_Number.l0 k y0 y1 y2) (annalsref02_Number.l0 (k+1) y0 y1 y2))
 | 0=>fun _ _ _ r h=>by simp [annalsref02_Number.l0] at h
 | k+1=>by
   have ih0:=annalsref02_Number.mono_l k
   ·intro y0 y1 y2
    unfold annalsref02_Number.l0
    repeat' first
    | (with_reducible exact ih0 _ _ _)
    | (with_reducible exact LeO.refl _)
    | (with_reducible exact LeO.none _)
    | (with_reducible refine LeO.ite ?_ ?_)
    | (with_reducible refine LeO.bind ?_ (fun _=>?_))
    | exact ih0 _ _ _
    | exact LeO.none _
    | refine LeO.ite ?_ ?_
    | refine LeO.bind ?_ (fun _=>?_)
theorem annalsref02_Number.mono : ∀a0 k,LeO (annalsref02_Number.f k a0) (annalsref02_Number.f (k+1) a0):=by
 intro a0 k
 have ih0:=annalsref02_Number.mono_l k
 unfold annalsref02_Number.f
 repeat' first
  | (with_reducible exact ih0 _ _ _)
  | (with_reducible exact LeO.refl _)
  | (with_reducible exact LeO.none _)
  | (with_reducible refine LeO.ite ?_ ?_)
  | (with_reducible refine LeO.bind ?_ (fun _=>?_))
  | exact ih0 _ _ _
  | exact LeO.none _
  | refine LeO.ite ?_ ?_
  | refine LeO.bind ?_ (fun _=>?_)
mutual
def annalsref03_First.l0:Nat->List Int->Int->List Int->Int->Option (List Int)
 | 0,_,_,_,_=>none
 | k+1,x0,x1,x5,x6=>if x6<x1 then (annalsref03_First.j1 k x0 x1 x5 x6 (decide ((wrap64 (Int.tdiv x6 8))<(x0.length:Int)))) else (annalsref03_First.j1 k x0 x1 x5 x6 false)
def annalsref03_First.j1:Nat->List Int->Int->List Int->Int->Bool->Option (List Int)
 | 0,_,_,_,_,_=>none
 | k+1,x0,x1,x5,x6,x17=>if x17=true then (if 0<=(wrap64 (Int.tdiv x6 8)) then (if (wrap64 (Int.tdiv x6 8))<(x0.length:Int) then (if (wrap64 (x1-x6))<8 then (if 0<=(wrap64 (8-(wrap64 (x1-x6)))) then (if x5.length<140737488355328 then (annalsref03_First.l0 k x0 x1 (x5++[shl .u8 (shr .u8 (rd x0 (wrap64 (Int.tdiv x6 8))) (wrap64 (8-(wrap64 (x1-x6))))) (wrap64 (8-(wrap64 (x1-x6))))]) (wrap64 (x6+8))) else (none)) else (none)) else (if x5.length<140737488355328 then (annalsref03_First.l0 k x0 x1 (x5++[rd x0 (wrap64 (Int.tdiv x6 8))]) (wrap64 (x6+8))) else (none))) else (none)) else (none)) else (some x5)
end
def annalsref03_First.f (k:Nat) (l0:List Int) (a1:Int):Option (List Int):=annalsref03_First.l0 k l0 a1 ([]:List Int) 0
theorem annalsref03_First.mono_l : ∀k,(∀y0 y1 y2 y3,LeO (annalsref03_First.l0 k y0 y1 y2 y3) (annalsref03_First.l0 (k+1) y0 y1 y2 y3))/\(∀y0 y1 y2 y3 y4,LeO (annalsref03_First.j1 k y0 y1 y2 y3 y4) (annalsref03_First.j1 (k+1) y0 y1 y2 y3 y4))
 | 0=>⟨fun _ _ _ _ r h=>by simp [annalsref03_First.l0] at h,fun _ _ _ _ _ r h=>by simp [annalsref03_First.j1] at h⟩
 | k+1=>by
   obtain ⟨ih0,ih1⟩:=annalsref03_First.mono_l k
   refine ⟨?_,?_⟩
   ·intro y0 y1 y2 y3
    unfold annalsref03_First.l0
    repeat' first
    | (with_reducible exact ih0 _ _ _ _)
    | (with_reducible exact ih1 _ _ _ _ _)
    | (with_reducible exact LeO.refl _)
    | (with_reducible exact LeO.none _)
    | (with_reducible refine LeO.ite ?_ ?_)
    | (with_reducible refine LeO.bind ?_ (fun _=>?_))
    | exact ih0 _ _ _ _
    | exact ih1 _ _ _ _ _
    | exact LeO.none _
    | refine LeO.ite ?_ ?_
    | refine LeO.bind ?_ (fun _=>?_)
   ·intro y0 y1 y2 y3 y4
    unfold annalsref03_First.j1
    repeat' first
    | (with_reducible exact ih0 _ _ _ _)
    | (with_reducible exact ih1 _ _ _ _ _)
    | (with_reducible exact LeO.refl _)
    | (with_reducible exact LeO.none _)
    | (with_reducible refine LeO.ite ?_ ?_)
    | (with_reducible refine LeO.bind ?_ (fun _=>?_))
    | exact ih0 _ _ _ _
    | exact ih1 _ _ _ _ _
    | exact LeO.none _
    | refine LeO.ite ?_ ?_
    | refine LeO.bind ?_ (fun _=>?_)
theorem annalsref03_First.mono : ∀a0 a1 k,LeO (annalsref03_First.f k a0 a1) (annalsref03_First.f (k+1) a0 a1):=by
 intro a0 a1 k
 obtain ⟨ih0,ih1⟩:=annalsref03_First.mono_l k
 unfold annalsref03_First.f
 repeat' first
  | (with_reducible exact ih0 _ _ _ _)
  | (with_reducible exact ih1 _ _ _ _ _)
  | (with_reducible exact LeO.refl _)
  | (with_reducible exact LeO.none _)
  | (with_reducible refine LeO.ite ?_ ?_)
  | (with_reducible refine LeO.bind ?_ (fun _=>?_))
  | exact ih0 _ _ _ _
  | exact ih1 _ _ _ _ _
  | exact LeO.none _
  | refine LeO.ite ?_ ?_
  | refine LeO.bind ?_ (fun _=>?_)
end Go.Proofs.YtdeneoknjeegbaaDoor.P
end
section
namespace Go.Proofs.YtdeneoknjeegbaaDoor.P
open Go.RowKit YtdeneoknjeegbaaDoorW.PrintWords YtdeneoknjeegbaaDoorW.PrintLast YtdeneoknjeegbaaDoorW.PrintMore
theorem wrap64_id (x:Int) (h : -9223372036854775808<=x/\x<=9223372036854775807):wrap64 x=x:=by unfold wrap64;omega
def num8 (n:Int):List Int:=[n/72057594037927936%256,n/281474976710656%256,n/1099511627776%256,n/4294967296%256,n/16777216%256,n/65536%256,n/256%256,n%256]
theorem num8_length (n:Int):(num8 n).length=8:=rfl
theorem div256 (n:Int) (a b:Int) (ha:0<=a) (h:a*256=b):n/a/256=n/b:=by
 rw [Int.ediv_ediv_of_nonneg ha,h]
theorem numBytes_eq (n:Int):numBytes n=num8 n:=by
 have e (i:Nat) (x:Int) (ys:List Int):numRun (i+1) x ys=numRun i (x/256) (ys.set i (x%256)):=rfl
 unfold numBytes
 rw [e 7,e 6,e 5,e 4,e 3,e 2,e 1,e 0]
 rw [div256 n 256 65536 (by decide) (by decide),div256 n 65536 16777216 (by decide) (by decide),div256 n 16777216 4294967296 (by decide) (by decide),div256 n 4294967296 1099511627776 (by decide) (by decide),div256 n 1099511627776 281474976710656 (by decide) (by decide),div256 n 281474976710656 72057594037927936 (by decide) (by decide)]
 rfl
def partB (p:List Int):List Int:=[(p.length:Int)/256%256,(p.length:Int)%256]++p
def textB (tag:Int) (parts:List (List Int)):List Int:=[tag]++parts.flatMap partB
def hashB (size tag:Int) (parts:List (List Int)):List Int:=if parts.any isLong=true then [] else (shaSum (textB tag parts)).take (mn (mx size 0) 32).toNat
theorem rd_L1_at (xs:List (List Int)) (i:Nat) (h:i<xs.length):rd_L1 xs (i:Int)=xs[i]:=by
 unfold rd_L1
 rw [Int.toNat_natCast,List.getD_eq_getElem?_getD,List.getElem?_eq_getElem h]
 rfl
theorem partB_length (p:List Int):(partB p).length=p.length+2:=by
 unfold partB
 simp
theorem flat_len (parts:List (List Int)) (h : ∀p∈parts,p.length<=65535):(parts.flatMap partB).length<=65537*parts.length:=by
 induction parts with
 | nil=>simp
 | cons p ps ih=>
   have:=ih (fun q hq=>h q (List.mem_cons_of_mem _ hq))
   have h1:=h p List.mem_cons_self
   rw [List.flatMap_cons,List.length_append,List.length_cons,partB_length]
   omega
theorem not_long {parts:List (List Int)} (h:parts.any isLong=false) : ∀p∈parts,p.length<=65535:=by
 intro p hp
 have:=List.any_eq_false.1 h p hp
 unfold isLong at this
 simp at this
 omega
theorem text_l0 (parts:List (List Int)) (hl : ∀p∈parts,p.length<=65535) (hn:parts.length<=100000) : ∀(d i k:Nat) (acc:List Int),i+d=parts.length->d<k->acc.length<=65537*i+1->
 texts_Text.l0 k acc parts (parts.length:Int) (i:Int)=some (acc++(parts.drop i).flatMap partB,0):=by
 intro d
 induction d with
 | zero=>
   intro i k acc hi hk ha
   obtain ⟨k,rfl⟩ : ∃m,k=m+1:=⟨k-1,by omega⟩
   simp only [texts_Text.l0]
   rw [if_neg (by omega),List.drop_of_length_le (by omega)]
   simp
 | succ d ih=>
   intro i k acc hi hk ha
   obtain ⟨k,rfl⟩ : ∃m,k=m+1:=⟨k-1,by omega⟩
   have hlt:i<parts.length:=by omega
   have h1:=hl parts[i] (List.getElem_mem hlt)
   simp only [texts_Text.l0]
   rw [if_pos (by omega),if_pos (by omega),if_pos (by omega),rd_L1_at _ _ hlt]
   simp only [Option.bind_some]
   rw [if_pos (by simp;omega),if_pos (by simp;omega),wrap64_id _ (by omega)]
   have:=ih (i+1) k (acc++[(parts[i].length:Int)/256%256,(parts[i].length:Int)%256]++parts[i]) (by omega) (by omega) (by simp;omega)
   rw [show ((i:Int)+1)=((i+1:Nat):Int) by omega,this,List.drop_eq_getElem_cons hlt,List.flatMap_cons]
   unfold partB
   simp
theorem text_f (tag:Int) (parts:List (List Int)) (ht:0<=tag/\tag<=255) (hn:parts.length<=100000) (k:Nat) (hk:parts.length<k):
 texts_Text.f k tag parts=some (if parts.any isLong=true then ([],4) else (textB tag parts,0)):=by
 unfold texts_Text.f
 rw [if_pos (by omega)]
 unfold slices_ContainsFunc_byte_byte.f
 simp only [Option.bind_some]
 cases h:parts.any isLong
 ·rw [if_neg (by simp),if_neg (by simp)]
  have:=text_l0 parts (not_long h) hn parts.length 0 k [tag%256] (by omega) hk (by simp)
  rw [show ((0:Nat):Int)=0 from rfl] at this
  rw [this,show tag%256=tag by omega]
  rfl
 ·rw [if_pos rfl,if_pos rfl]
theorem textB_length (tag:Int) (parts:List (List Int)) (h:parts.any isLong=false):(textB tag parts).length<=65537*parts.length+1:=by
 have:=flat_len parts (not_long h)
 unfold textB
 simp only [List.length_append,List.length_cons,List.length_nil]
 omega
theorem hash_f (size tag:Int) (parts:List (List Int)) (ht:0<=tag/\tag<=255) (hn:parts.length<=100000) (k:Nat) (hk:parts.length<k):
 texts_Hash.f k size tag parts=some (hashB size tag parts):=by
 unfold texts_Hash.f hashB
 rw [text_f tag parts ht hn k hk]
 simp only [Option.bind_some]
 cases h:parts.any isLong
 ·have hl:=textB_length tag parts h
  simp only [Bool.false_eq_true,if_false,if_true]
  unfold sha_Cut.f
  rw [if_pos (by show (textB tag parts).length<=_;omega)]
  rfl
 ·simp only [if_true]
  rw [if_neg (by decide)]
theorem firstB_length (l:List Int) (a:Int):(firstB l a).length<=l.length:=by
 unfold firstB firstBits
 split
 ·omega
 ·split
  ·simp
  ·split
   ·rw [List.length_take];omega
   ·rw [List.length_set,List.length_take];omega
theorem bits_u8_range (op:BinOp) (x y:Int):0<=Go.bits op .u8 x y/\Go.bits op .u8 x y<=255:=by
 unfold Go.bits
 rw [IntKind.wrap_u8]
 omega
theorem firstB_ok (l:List Int) (hb:BytesOk l) (a:Int):BytesOk (firstB l a):=by
 unfold firstB firstBits
 have ht (m:Nat):BytesOk (l.take m):=fun x hx=>hb x (List.mem_of_mem_take hx)
 split
 ·exact hb
 ·split
  ·intro x hx;cases hx
  ·split
   ·exact ht _
   ·intro x hx
    rcases List.mem_or_eq_of_mem_set hx with h|rfl
    ·exact ht _ x h
    ·unfold cutByte
     exact bits_u8_range _ _ _
end Go.Proofs.YtdeneoknjeegbaaDoor.P
end
section
namespace Go.Proofs.YtdeneoknjeegbaaDoor.P
open Go.RowKit YtdeneoknjeegbaaDoorW.PrintWords YtdeneoknjeegbaaDoorW.PrintLast YtdeneoknjeegbaaDoorW.PrintMore
def bcommon:List Int->List Int->Int
 | x :: xs,y :: ys=>if x=y then 8+bcommon xs ys else 8-(Lib.bitLen (Go.bits .xor .u8 x y).toNat:Int)
 | _,_=>0
theorem xor_range (x y:Int):0<=Go.bits .xor .u8 x y/\Go.bits .xor .u8 x y<=255:=by
 unfold Go.bits
 rw [IntKind.wrap_u8]
 omega
theorem bitLen_le8 : ∀n:Fin 256,Lib.bitLen n.val<=8:=by decide +kernel
theorem bcommon_nil (l:List Int):bcommon l []=0:=by cases l<;>rfl
theorem bcommon_end {a b:List Int} {k:Nat} (h:k=min a.length b.length):bcommon (a.drop k) (b.drop k)=0:=by
 rcases Nat.le_total a.length b.length with hl|hl
 ·rw [List.drop_eq_nil_of_le (show a.length<=k by omega)]
  rfl
 ·rw [List.drop_eq_nil_of_le (show b.length<=k by omega)]
  exact bcommon_nil _
theorem bcommon_step {a b:List Int} {k:Nat} (ha:k<a.length) (hb:k<b.length):bcommon (a.drop k) (b.drop k)=if rd a (k:Int)=rd b (k:Int) then 8+bcommon (a.drop (k+1)) (b.drop (k+1)) else 8-(Lib.bitLen (Go.bits .xor .u8 (rd a (k:Int)) (rd b (k:Int))).toNat:Int):=by
 have h1:rd a (k:Int)=a[k]:=by unfold rd;rw [Int.toNat_natCast,List.getD_eq_getElem?_getD,List.getElem?_eq_getElem ha];rfl
 have h2:rd b (k:Int)=b[k]:=by unfold rd;rw [Int.toNat_natCast,List.getD_eq_getElem?_getD,List.getElem?_eq_getElem hb];rfl
 rw [h1,h2,List.drop_eq_getElem_cons ha,List.drop_eq_getElem_cons hb]
 rfl
attribute [local go_sem] max2_int min2_int max_two min_two
theorem cut_meas {k n:Nat} (h:k<n) (hw:wrap64 ((k:Int)+1)=((k+1:Nat):Int)):n-(intOf (.int .i64 (wrap64 ((k:Int)+1)))).toNat<n-(intOf (.int .i64 (k:Int))).toNat:=by
 rw [hw]
 simp only [intOf,Int.toNat_natCast]
 omega
set_option maxHeartbeats 4000000 in
set_option maxRecDepth 100000 in
theorem common_calls (A0 A1:Option Addr) (c0 c1:Nat) (l0 l1:List Int) (w:World) (h0:Kd.C (Kd.int .u8) w A0 l0.length l0) (hc0:l0.length<=c0) (h1:Kd.C (Kd.int .u8) w A1 l1.length l1) (hc1:l1.length<=c1) (hl:l0.length<=1000000000000):
 Calls Tryd.prog 86 #[.slice A0 l0.length c0,.slice A1 l1.length c1] w fun e w'=>e = .returned (.int .i64 (bcommon l0 l1))/\Below w.heap.size w w':=by
 have H0:=z_ h0
 have H1:=z_ h1
 obtain ⟨n,hn⟩ : ∃n,n=min l0.length l1.length:=⟨_,rfl⟩
 have e1:(if l1.length<l0.length then (l1.length:Int) else (l0.length:Int))=(n:Int):=by split<;>omega
 have e2:(if (l1.length:Int)<(l0.length:Int) then (l1.length:Int) else (l0.length:Int))=(n:Int):=by split<;>omega
 obtain ⟨i0,hi0,hzz⟩:=Option.map_eq_some_iff.1 (show (Tryd.prog.info? 5).map (fun i=>(i.zero,i.size,i.bytes))=some (some (.int .u8 0),1,1) by kernel_rfl)
 simp only [Prod.mk.injEq] at hzz
 have hlt:(l0.take n).length=n:=by rw [List.length_take];omega
 have hcut : ∀W:World,(Instr.slice 31 (.slice A0 l0.length c0) none (some (.int .i64 (n:Int))) none).run Tryd.prog W = .ok (.slice A0 n c0) W:=fun W=>by
  have:=(print_take_of (P:=Tryd.prog) (Value.int .u8) 0 31 5 .i64 Tryd.underlying31 hi0 hzz.2.1 A0 c0 l0 (n:Int) (by omega) (by omega) hc0).1 W
  rw [Int.toNat_natCast,hlt] at this
  exact this
 have HN:=z_ (And.intro hn hl)
 have HB:=z_ (Below.refl w.heap.size w)
 clear h0 h1 hc0 hc1 hl hn hi0 hzz hlt i0
 go_enter Tryd.func86,Tryd.ntmps86
 go_wp2_with fail
 go_loopw [17] (fun v17 wr=>∃k:Nat,k<=n/\v17 = .int .i64 (k:Int)/\Aside0 (bcommon l0 l1=8*(k:Int)+bcommon (l0.drop k) (l1.drop k))/\Aside0 (Below w.heap.size w wr)) (fun v17 _=>n-(intOf v17).toNat)
 case atStart=>exact ⟨0,Nat.zero_le _,rfl,⟨by simp⟩,HB⟩
 case round=>
  clear HB e1 e2
  obtain ⟨k,hk,rfl,HE,HB⟩:=hrel
  by_cases hlt:k<n
  ·have HK:=z_ hlt
   have hd:decide ((k:Int)<(n:Int))=true:=decide_eq_true (by omega)
   have hd2:decide (k<n)=true:=decide_eq_true hlt
   have hd3:(k:Int)<(n:Int):=by omega
   have ha:k<l0.length:=by have:=HN.out.1;omega
   have hb:k<l1.length:=by have:=HN.out.1;omega
   have hb3:(k:Int)<(l1.length:Int):=by omega
   obtain ⟨a0,rfl,k0⟩:=Kd.at_int H0.out (k:Int) (by omega) (by omega)
   obtain ⟨a1,rfl,k1⟩:=Kd.at_int H1.out (k:Int) (by omega) (by omega)
   have hst:=bcommon_step ha hb
   obtain ⟨x,hx⟩ : ∃x,x=rd l0 (k:Int):=⟨_,rfl⟩
   obtain ⟨y,hy⟩ : ∃y,y=rd l1 (k:Int):=⟨_,rfl⟩
   rw [<-hx] at k0 hst
   rw [<-hy] at k1 hst
   replace k0:=(HB.out.cell (World.block_lt_of_cell? w _ k0)).trans k0
   replace k1:=(HB.out.cell (World.block_lt_of_cell? w _ k1)).trans k1
   simp only [Int.toNat_natCast] at k0 k1
   clear hx hy hk ha
   by_cases hxy:x=y
   ·have hne:(x !=y)=false:=by rw [hxy];simp
    rw [if_pos hxy] at hst
    have HST:=z_ hst
    clear hxy hst
    go_wp2_with fail
    have hkn:=HK.out
    have hnn:=HN.out
    have hw1:wrap64 ((k:Int)+1)=((k+1:Nat):Int):=by rw [wrap64_id _ (by omega)];omega
    have hmeas:=cut_meas (k:=k) (n:=n) HK.out hw1
    have hE:bcommon l0 l1=8*(k:Int)+(8+bcommon (l0.drop (k+1)) (l1.drop (k+1))):=by rw [HE.out,HST.out]
    go_roundw
    case measure=>exact hmeas
    case rel=>exact ⟨k+1,HK.out,by rw [hw1],⟨by rw [hE];omega⟩,HB⟩
   ·have hne:(x !=y)=true:=by simpa using hxy
    rw [if_neg hxy] at hst
    have HST:=z_ hst
    clear hxy hst
    obtain ⟨z,hz⟩ : ∃z,Go.bits .xor .u8 x y=z:=⟨_,rfl⟩
    have HZ:=z_ (show 0<=z/\z<=255 from hz▸xor_range x y)
    rw [hz] at HST
    have hzl:=bitLen_le8 ⟨z.toNat,by have:=HZ.out;omega⟩
    have hkn:=HK.out
    have hnn:=HN.out
    have hw8:wrap64 (8*(k:Int))=8*(k:Int):=wrap64_id _ (by omega)
    have hw9:wrap64 (8*(k:Int)+(8-(Lib.bitLen z.toNat:Int)))=8*(k:Int)+(8-(Lib.bitLen z.toNat:Int)):=wrap64_id _ (by simp only at hzl;omega)
    have HW9:=z_ hw9
    clear hzl hkn hnn hw9
    go_wp2_with fail
    refine (bits_LeadingZeros8.calls z (8-(Lib.bitLen z.toNat:Int)) _ (by unfold bits_LeadingZeros8.f;rw [if_pos HZ.out.1,if_pos HZ.out.2])).mono ?_
    rintro e w' ⟨rfl,hdr⟩
    have HBE:=z_ (below_step HB.out hdr.below)
    clear hdr
    have hw9:=HW9.out
    go_wp2_with fail
    go_ret
    exact ⟨by show Ending.returned (.int .i64 (wrap64 (8*(k:Int)+(8-(Lib.bitLen z.toNat:Int)))))=_;rw [HW9.out,HE.out,HST.out],HBE.out⟩
  ·obtain rfl:k=n:=by omega
   have hd:decide ((k:Int)<(k:Int))=false:=decide_eq_false (by omega)
   have hd2:decide (k<k)=false:=decide_eq_false (by omega)
   have HKE:=z_ (bcommon_end (a:=l0) (b:=l1) HN.out.1)
   have HW8:=z_ (wrap64_id (8*(k:Int)) (by have:=HN.out;omega))
   clear hk hlt
   go_wp2_with fail
   go_ret
   exact ⟨by show Ending.returned (.int .i64 (wrap64 (8*(k:Int))))=_;rw [HW8.out,HE.out,HKE.out,Int.add_zero],HB.out⟩
def bits_Common.f (l0 l1:List Int):Option Int:=if l0.length<=1000000000000 then some (bcommon l0 l1) else none
theorem bits_Common.calls (A0:Option Addr) (c0:Nat) (l0:List Int) (A1:Option Addr) (c1:Nat) (l1:List Int) (r:Int) (w:World) (hr0:Kd.C (Kd.int .u8) w A0 l0.length l0) (hc0:l0.length<=c0) (hr1:Kd.C (Kd.int .u8) w A1 l1.length l1) (hc1:l1.length<=c1) (h:bits_Common.f l0 l1=some r):
 Calls Tryd.prog 86 #[.slice A0 l0.length c0,.slice A1 l1.length c1] w fun e w'=>e = .returned (.int .i64 r)/\Below w.heap.size w w':=by
 unfold bits_Common.f at h
 split at h
 case isFalse=>cases h
 case isTrue hl=>
  obtain rfl:=Option.some.inj h
  exact common_calls A0 A1 c0 c1 l0 l1 w hr0 hc0 hr1 hc1 hl
end Go.Proofs.YtdeneoknjeegbaaDoor.P
end
section
namespace Go.Proofs.YtdeneoknjeegbaaDoor.P
open Go.RowKit YtdeneoknjeegbaaDoorW.PrintWords YtdeneoknjeegbaaDoorW.PrintLast YtdeneoknjeegbaaDoorW.PrintMore
def keyB (l:List Int):List Int:=((min l.length 255:Nat):Int) :: l.take 255
theorem litB_R {w:World} (base:Nat) (hb:base<=w.heap.size) (x:Int):Kd.R (Kd.int .u8) 5 (w.alloc (.cells #[.int .u8 x] 5)) base (fun _=>True) (.slice (some ⟨w.heap.size,0,none⟩) 1 1) [x]:=
 ⟨fun _ _=>trivial,[.int .u8 x],by
  have h2:=World.ownsRow_lit (base:=base) (e:=5) (size:=1) w #[.int .u8 x] 1 hb (by decide) (by rfl)
  exact (show (w.alloc (.cells #[.int .u8 x] 5)).ownsRow base 5 1 (.slice (some ⟨w.heap.size,0,none⟩) 1 1) 1 [.int .u8 x] from by simpa using h2),Kd.reps_scalar [x]⟩
attribute [local go_sem] max2_int min2_int max_two min_two
theorem take255 (l:List Int):l.take (min l.length 255)=l.take 255:=by
 rcases Nat.le_total l.length 255 with h|h
 ·rw [Nat.min_eq_left h,List.take_length,List.take_of_length_le h]
 ·rw [Nat.min_eq_right h]
set_option maxHeartbeats 4000000 in
set_option maxRecDepth 100000 in
theorem rkey_calls (A0:Option Addr) (c0:Nat) (l0:List Int) (w:World) (h0:Kd.C (Kd.int .u8) w A0 l0.length l0) (hc0:l0.length<=c0):
 Calls Tryd.prog 60 #[.slice A0 l0.length c0] w fun e w'=>∃v0_:Value,e = .returned v0_/\Kd.R (Kd.int .u8) 5 w' w.heap.size (fun _=>True) v0_ (keyB l0)/\Below w.heap.size w w':=by
 have H0:=z_ h0
 obtain ⟨n,hn⟩ : ∃n,n=min l0.length 255:=⟨_,rfl⟩
 have e1:(if 255<l0.length then (255:Int) else (l0.length:Int))=(n:Int):=by split<;>omega
 have e2:(if 255<(l0.length:Int) then (255:Int) else (l0.length:Int))=(n:Int):=by split<;>omega
 have e3:IntKind.u8.wrap (n:Int)=(n:Int):=by rw [IntKind.wrap_u8];omega
 obtain ⟨i0,hi0,hzz⟩:=Option.map_eq_some_iff.1 (show (Tryd.prog.info? 5).map (fun i=>(i.zero,i.size,i.bytes))=some (some (.int .u8 0),1,1) by kernel_rfl)
 simp only [Prod.mk.injEq] at hzz
 have hlt:(l0.take n).length=n:=by rw [List.length_take];omega
 have hcut : ∀W:World,(Instr.slice 31 (.slice A0 l0.length c0) none (some (.int .i64 (n:Int))) none).run Tryd.prog W = .ok (.slice A0 n c0) W:=fun W=>by
  have:=(print_take_of (P:=Tryd.prog) (Value.int .u8) 0 31 5 .i64 Tryd.underlying31 hi0 hzz.2.1 A0 c0 l0 (n:Int) (by omega) (by omega) hc0).1 W
  rw [Int.toNat_natCast,hlt] at this
  exact this
 have HT:=z_ (show Kd.C (Kd.int .u8) w A0 n (l0.take n) from by have:=Kd.C_take h0 (m:=n) (by omega);rwa [hlt] at this)
 have HN:=z_ (And.intro hn hlt)
 clear h0 hc0 hn hi0 hzz hlt i0
 go_enter Tryd.func60,Tryd.ntmps60
 go_wp2_with ((at_builtin;go_must (refine Kd.R_append_rows (Kd.int .u8) (w0:=w) w.heap.size rfl (.tmp 9) (.tmp 12) 31 5 (.int .u8 0) 1 rfl Tryd.underlying31 (by kernel_rfl) rfl (by decide) (by omega) (.slice (some ⟨w.heap.size,0,none⟩) 1 1) [(n:Int)] (l0.take n) A0 n c0 (fun _=>True) (fun _=>False) rfl rfl ?aO ?aR (fun _ _ h=>h) (fun _ h=>h.elim) ?aF ?aB ?aS ?aL ?_;(case aO=>exact litB_R w.heap.size (Nat.le_refl _) _);(case aR=>exact Kd.C_below HT.out (below_alloc (Below.refl _ _) _));(case aF=>exact (fun _ _=>trivial));(case aB=>exact below_alloc (Below.refl _ _) _);(case aS=>simp);(case aL=>(have:=HN.out.1;simp;omega));intro v1 w1 hR1 hb1 hg1 hat1;obtain ⟨A',c',e'⟩:=Kd.R_slice hR1;subst e';obtain ⟨m1,hm1⟩ : ∃m,m=([(n:Int)]++l0.take n).length:=⟨_,rfl⟩;rw [<-hm1] at hR1;rw [<-hm1];have HR1:=z_ hR1;have HB1:=z_ hb1;clear hm1 hR1 hb1 hg1 hat1)))
 go_ret
 have he : [(n:Int)]++l0.take n=keyB l0:=by unfold keyB;rw [HN.out.1,take255];rfl
 exact ⟨_,rfl,by rw [<-he];exact HR1.out,HB1.out⟩
end Go.Proofs.YtdeneoknjeegbaaDoor.P
end
section
namespace Go.Proofs.YtdeneoknjeegbaaDoor.P
open Go.RowKit YtdeneoknjeegbaaDoorW.PrintWords YtdeneoknjeegbaaDoorW.PrintLast YtdeneoknjeegbaaDoorW.PrintMore
theorem infoB:(Tryd.prog.info? 5).map (fun i=>(i.zero,i.size,i.bytes))=some (some (.int .u8 0),1,1):=by kernel_rfl
theorem cut0_run (A:Option Addr) (n c:Nat) (h:n<=c) (W:World):(Instr.slice 31 (.slice A n c) none (some (.int .i64 0)) none).run Tryd.prog W = .ok (.slice A 0 c) W:=by
 obtain ⟨i0,hi0,hzz⟩:=Option.map_eq_some_iff.1 infoB
 simp only [Prod.mk.injEq] at hzz
 have:=(print_take_of (P:=Tryd.prog) (Value.int .u8) 0 31 5 .i64 Tryd.underlying31 hi0 hzz.2.1 A c (List.replicate n 0) (0:Int) (by omega) (by simp) (by simpa using h)).1 W
 simpa using this
set_option maxHeartbeats 4000000 in
set_option maxRecDepth 100000 in
theorem grow_calls (n:Int) (w:World) (h1:1<=n) (h2:n<=1000000000000):
 Calls Tryd.prog 99 #[.slice none 0 0,.int .i64 n] w fun e w'=>∃v0_:Value,e = .returned v0_/\Kd.R (Kd.int .u8) 5 w' w.heap.size (fun _=>True) v0_ []/\Below w.heap.size w w':=by
 have d1:decide (n<0)=false:=decide_eq_false (by omega)
 have d2:decide (0<n)=true:=decide_eq_true (by omega)
 have hw:wrap64 n=n:=wrap64_id _ (by omega)
 have hc0 : ∀W:World,(Instr.slice 31 (.slice none 0 0) none (some (.int .i64 0)) none).run Tryd.prog W = .ok (.slice none 0 0) W:=fun W=>cut0_run none 0 0 (Nat.le_refl _) W
 have HN:=z_ (And.intro h1 h2)
 clear h1 h2
 go_enter Tryd.func99,Tryd.ntmps99
 go_wp2_with ((at_builtin;go_must (refine Kd.R_append_zeros (Kd.int .u8) (w0:=w) w.heap.size rfl (.tmp 20) (.tmp 21) 31 3 5 (.int .u8 0) 1 rfl Tryd.underlying31 Tryd.underlying3 infoB rfl (by decide) (by omega) (.slice none 0 0) [] (0:Int) n (fun _=>True) rfl (congrArg (Value.int .i64) hw) ?aZ ?aF ?aO ?aN ?aB ?aS ?aL ?_;(case aZ=>rfl);(case aF=>exact (fun _ _=>trivial));(case aO=>exact Kd.R_nil _ _ _ _ _);(case aN=>(have:=HN.out;omega));(case aB=>exact Below.refl _ _);(case aS=>exact Nat.le_refl _);(case aL=>(have:=HN.out;simp;omega));intro v1 w1 hR1 hb1 hg1 hat1;obtain ⟨A',c',e'⟩:=Kd.R_slice hR1;subst e';obtain ⟨m1,hm1⟩ : ∃m,m=([]++List.replicate n.toNat (0:Int)).length:=⟨_,rfl⟩;rw [<-hm1] at hR1;rw [<-hm1];have hmc:=(Kd.R_reads' hR1).2.1;have hcut : ∀W:World,(Instr.slice 31 (.slice A' m1 c') none (some (.int .i64 0)) none).run Tryd.prog W = .ok (.slice A' 0 c') W:=(fun W=>cut0_run A' m1 c' hmc W);have HR1:=z_ hR1;have HB1:=z_ hb1;clear hm1 hR1 hb1 hg1 hat1 hmc)))
 go_ret
 exact ⟨_,rfl,Kd.R_take HR1.out (m:=0) (Nat.zero_le _),HB1.out⟩
def Two (w:World) (g:Nat) (v1 v2:Value):Prop:=w.heap[g]? = some (.cells [v1,v2].toArray 31 (0,0))
theorem Two.below {w w1:World} {g:Nat} {v1 v2:Value} (h:Two w g v1 v2) (hb:Below w.heap.size w w1):Two w1 g v1 v2:=blk_below h hb
theorem Two.cells {w:World} {g:Nat} {v1 v2:Value} (h:Two w g v1 v2):w.cell? ⟨g,0,none⟩=some v1/\w.cell? ⟨g,1,none⟩=some v2:=by
 have c0:=blk_cell h 0
 have c1:=blk_cell h 1
 simp at c0 c1
 exact ⟨c0,c1⟩
set_option maxHeartbeats 8000000 in
set_option maxRecDepth 100000 in
theorem concat2_calls {w:World} (g:Nat) (A1 A2:Option Addr) (c1 c2:Nat) (l1 l2:List Int) (hg:Two w g (.slice A1 l1.length c1) (.slice A2 l2.length c2)) (h1:Kd.C (Kd.int .u8) w A1 l1.length l1) (h2:Kd.C (Kd.int .u8) w A2 l2.length l2)
 (hl1:1<=l1.length) (hl:l1.length+l2.length<=100000000000):
 Calls Tryd.prog 85 #[.slice (some ⟨g,0,none⟩) 2 2] w fun e w'=>∃v0_:Value,e = .returned v0_/\Kd.R (Kd.int .u8) 5 w' w.heap.size (fun _=>True) v0_ (l1++l2)/\Below w.heap.size w w':=by
 have HG:=z_ hg
 have H1:=z_ h1
 have H2:=z_ h2
 obtain ⟨n1,hn1⟩ : ∃n1,n1=l1.length:=⟨_,rfl⟩
 obtain ⟨n2,hn2⟩ : ∃n2,n2=l2.length:=⟨_,rfl⟩
 have HN:=z_ (show n1=l1.length/\n2=l2.length/\1<=n1/\n1+n2<=100000000000 from ⟨hn1,hn2,by omega,by omega⟩)
 rw [<-hn1,<-hn2] at hg
 have HG:=z_ hg
 clear hg h1 h2 hl1 hl hn1 hn2
 go_enter Tryd.func85,Tryd.ntmps85
 go_wp2_with fail
 go_loopw [3,11] (fun v3 v11 wr=>∃k:Nat,k<=2/\v11 = .int .i64 (k:Int)/\v3 = .int .i64 (if k=0 then 0 else if k=1 then (n1:Int) else (n1:Int)+(n2:Int))/\Aside0 (Below w.heap.size w wr)) (fun _ v11 _=>2-(intOf v11).toNat)
 case atStart=>exact ⟨0,by omega,rfl,rfl,⟨Below.refl _ _⟩⟩
 case round=>
  obtain ⟨k,hk,rfl,rfl,HB⟩:=hrel
  obtain ⟨q0,q1⟩:=(HG.out.below HB.out).cells
  have hnn:=HN.out
  have hw1:wrap64 (0+(n1:Int))=(n1:Int):=by rw [wrap64_id _ (by omega)];omega
  have hw2:wrap64 ((n1:Int)+(n2:Int))=(n1:Int)+(n2:Int):=by rw [wrap64_id _ (by omega)]
  have hw3:wrap64 ((n1:Int))=(n1:Int):=by rw [wrap64_id _ (by omega)]
  have d1:decide ((n1:Int)<0)=false:=decide_eq_false (by omega)
  have d2:decide ((n1:Int)+(n2:Int)<0)=false:=decide_eq_false (by omega)
  have HW:=z_ hw2
  clear hnn
  obtain rfl|rfl|rfl:k=0\/k=1\/k=2:=by omega
  ·go_wp2_with fail
   exact ⟨⟨1,by omega,rfl,by rw [hw3];rfl,HB⟩,by simp [intOf]⟩
  ·go_wp2_with fail
   exact ⟨⟨2,by omega,rfl,by rw [hw2];rfl,HB⟩,by simp [intOf]⟩
  ·clear hk q0 q1
   go_wp2_with fail
   refine (grow_calls ((n1:Int)+(n2:Int)) wr (by have:=HN.out;omega) (by have:=HN.out;omega)).mono ?_
   rintro e w2 ⟨v,rfl,hR,hb⟩
   obtain ⟨A,c,rfl⟩:=Kd.R_slice hR
   have HB2:=z_ (below_step HB.out hb)
   have HR2:=z_ (Kd.R_lower hR HB.out.size)
   clear hR hb HB hw1 hw2 hw3 d1 d2
   go_wp2_with fail
   go_loopw [6,27] (fun v6 v27 wq=>∃(k:Nat) (A:Option Addr) (n c:Nat),k<=2/\v27 = .int .i64 (k:Int)/\v6 = .slice A n c/\Aside0 (Kd.R (Kd.int .u8) 5 wq w.heap.size (fun _=>True) (.slice A n c) (if k=0 then [] else if k=1 then l1 else l1++l2))/\Aside0 (Below w.heap.size w wq)) (fun _ v27 _=>2-(intOf v27).toNat)
   case atStart=>exact ⟨0,A,0,c,by omega,rfl,rfl,HR2,HB2⟩
   case round=>
    clear HR2 HB2
    obtain ⟨k,A,n,c,hk,rfl,rfl,HR,HB⟩:=hrel
    obtain ⟨q0,q1⟩:=(HG.out.below HB.out).cells
    obtain rfl|rfl|rfl:k=0\/k=1\/k=2:=by omega
    ·replace HR:=z_ (show Kd.R (Kd.int .u8) 5 _ w.heap.size (fun _=>True) (.slice A n c) ([]:List Int) from HR.out)
     go_wp2_with ((at_builtin;go_must (refine Kd.R_append_rows (Kd.int .u8) (w0:=w) w.heap.size rfl (.tmp 31) (.tmp 32) 31 5 (.int .u8 0) 1 rfl Tryd.underlying31 infoB rfl (by decide) (by omega) (.slice A n c) ([]:List Int) l1 A1 n1 c1 (fun _=>True) (fun _=>False) rfl rfl ?aO ?aR (fun _ _ h=>h) (fun _ h=>h.elim) ?aF ?aB ?aS ?aL ?_;(case aO=>exact HR.out);(case aR=>exact (by have:=Kd.C_below H1.out HB.out;rw [<-HN.out.1] at this;exact this));(case aF=>exact (fun _ _=>trivial));(case aB=>exact HB.out);(case aS=>exact HB.out.size);(case aL=>(have:=HN.out;simp;omega));intro v1 w1 hR1 hb1 hg1 hat1;obtain ⟨A',c',e'⟩:=Kd.R_slice hR1;subst e';obtain ⟨m1,hm1⟩ : ∃m,m=(([]:List Int)++l1).length:=⟨_,rfl⟩;rw [<-hm1] at hR1;rw [<-hm1];have HR1:=z_ hR1;have HB1:=z_ hb1;clear hm1 hR1 hb1 hg1 hat1)))
     exact ⟨⟨1,A',m1,c',by omega,rfl,rfl,HR1,HB1⟩,by simp [intOf]⟩
    ·replace HR:=z_ (show Kd.R (Kd.int .u8) 5 _ w.heap.size (fun _=>True) (.slice A n c) l1 from HR.out)
     go_wp2_with ((at_builtin;go_must (refine Kd.R_append_rows (Kd.int .u8) (w0:=w) w.heap.size rfl (.tmp 31) (.tmp 32) 31 5 (.int .u8 0) 1 rfl Tryd.underlying31 infoB rfl (by decide) (by omega) (.slice A n c) l1 l2 A2 n2 c2 (fun _=>True) (fun _=>False) rfl rfl ?aO ?aR (fun _ _ h=>h) (fun _ h=>h.elim) ?aF ?aB ?aS ?aL ?_;(case aO=>exact HR.out);(case aR=>exact (by have:=Kd.C_below H2.out HB.out;rw [<-HN.out.2.1] at this;exact this));(case aF=>exact (fun _ _=>trivial));(case aB=>exact HB.out);(case aS=>exact HB.out.size);(case aL=>(have:=HN.out;simp;omega));intro v1 w1 hR1 hb1 hg1 hat1;obtain ⟨A',c',e'⟩:=Kd.R_slice hR1;subst e';obtain ⟨m1,hm1⟩ : ∃m,m=(l1++l2).length:=⟨_,rfl⟩;rw [<-hm1] at hR1;rw [<-hm1];have HR1:=z_ hR1;have HB1:=z_ hb1;clear hm1 hR1 hb1 hg1 hat1)))
     exact ⟨⟨2,A',m1,c',by omega,rfl,rfl,HR1,HB1⟩,by simp [intOf]⟩
    ·clear hk q0 q1
     go_wp2_with fail
     go_ret
     exact ⟨_,rfl,HR.out,HB.out⟩
attribute [local go_sem] max2_int min2_int max_two min_two
set_option maxHeartbeats 4000000 in
set_option maxRecDepth 100000 in
theorem key_calls (A0:Option Addr) (c0:Nat) (l0:List Int) (w:World) (h0:Kd.C (Kd.int .u8) w A0 l0.length l0) (hc0:l0.length<=c0):
 Calls Tryd.prog 55 #[.slice A0 l0.length c0] w fun e w'=>∃v0_:Value,e = .returned v0_/\Kd.R (Kd.int .u8) 5 w' w.heap.size (fun _=>True) v0_ (keyB l0)/\Below w.heap.size w w':=by
 have H0:=z_ h0
 obtain ⟨n,hn⟩ : ∃n,n=min l0.length 255:=⟨_,rfl⟩
 have e1:(if 255<l0.length then (255:Int) else (l0.length:Int))=(n:Int):=by split<;>omega
 have e2:(if 255<(l0.length:Int) then (255:Int) else (l0.length:Int))=(n:Int):=by split<;>omega
 have e3:IntKind.u8.wrap (n:Int)=(n:Int):=by rw [IntKind.wrap_u8];omega
 obtain ⟨i0,hi0,hzz⟩:=Option.map_eq_some_iff.1 infoB
 simp only [Prod.mk.injEq] at hzz
 have hlt:(l0.take n).length=n:=by rw [List.length_take];omega
 have hcut : ∀W:World,(Instr.slice 31 (.slice A0 l0.length c0) none (some (.int .i64 (n:Int))) none).run Tryd.prog W = .ok (.slice A0 n c0) W:=fun W=>by
  have:=(print_take_of (P:=Tryd.prog) (Value.int .u8) 0 31 5 .i64 Tryd.underlying31 hi0 hzz.2.1 A0 c0 l0 (n:Int) (by omega) (by omega) hc0).1 W
  rw [Int.toNat_natCast,hlt] at this
  exact this
 have HT:=z_ (show Kd.C (Kd.int .u8) w A0 (l0.take n).length (l0.take n) from Kd.C_take h0 (m:=n) (by omega))
 have HN:=z_ (And.intro hn hlt)
 clear h0 hc0 hn hi0 hzz hlt i0
 go_enter Tryd.func55,Tryd.ntmps55
 go_wp2_with fail
 obtain ⟨w2,hw2⟩ : ∃w2,w2=(w.alloc (.cells #[.int .u8 (n:Int)] 5)).alloc (.cells #[.slice (some ⟨w.heap.size,0,none⟩) 1 1,.slice A0 n c0] 31):=⟨_,rfl⟩
 rw [<-hw2]
 have hb12:Below (w.alloc (.cells #[.int .u8 (n:Int)] 5)).heap.size (w.alloc (.cells #[.int .u8 (n:Int)] 5)) w2:=by rw [hw2];exact below_alloc (Below.refl _ _) _
 have HB2:=z_ (show Below w.heap.size w w2 from by rw [hw2];exact below_alloc (below_alloc (Below.refl _ _) _) _)
 have hR:=Kd.R_below (litB_R (w:=w) w.heap.size (Nat.le_refl _) (n:Int)) hb12
 have hT:Two w2 (w.heap.size+1) (.slice (some ⟨w.heap.size,0,none⟩) 1 1) (.slice A0 n c0):=by
  have:=heap_alloc_new (w.alloc (.cells #[.int .u8 (n:Int)] 5)) (.cells #[.slice (some ⟨w.heap.size,0,none⟩) 1 1,.slice A0 n c0] 31)
  rw [hw2]
  simpa [Two] using this
 clear hw2 hb12
 refine (concat2_calls (w.heap.size+1) (some ⟨w.heap.size,0,none⟩) A0 1 c0 [(n:Int)] (l0.take n) (by rw [HN.out.2];exact hT) (Kd.R_reads' hR).2.2 (Kd.C_below HT.out HB2.out) (by simp) (by rw [HN.out.2];have:=HN.out.1;simp;omega)).mono ?_
 rintro e w3 ⟨v,rfl,hR3,hb3⟩
 have HR3:=z_ (Kd.R_lower hR3 HB2.out.size)
 have HB3:=z_ (below_step HB2.out hb3)
 clear hR hT hR3 hb3
 go_wp2_with fail
 go_ret
 have he : [(n:Int)]++l0.take n=keyB l0:=by unfold keyB;rw [HN.out.1,take255];rfl
 exact ⟨_,rfl,by rw [<-he];exact HR3.out,HB3.out⟩
end Go.Proofs.YtdeneoknjeegbaaDoor.P
end
section
namespace Go.Proofs.YtdeneoknjeegbaaDoor.P
open Go.RowKit YtdeneoknjeegbaaDoorW.PrintWords YtdeneoknjeegbaaDoorW.PrintLast YtdeneoknjeegbaaDoorW.PrintMore
attribute [local go_sem] max2_int min2_int max_two min_two max_three min_three max_four min_four
def bits_Begins.f (l0:List Int) (l1:List Int) (a2:Int):Option (Bool):=if a2<1 then (some true) else (if a2<=(wrap64 (8*(mn (l0.length:Int) (l1.length:Int)))) then ((bits_Common.f l0 l1).bind fun t358=>(some (decide (t358>=a2)))) else (some false))
set_option maxHeartbeats 8000000 in
set_option maxRecDepth 100000 in
theorem bits_Begins.calls (A0:Option Addr) (c0:Nat) (l0:List Int) (A1:Option Addr) (c1:Nat) (l1:List Int) (a2:Int) (r:Bool) (w:World) (hr0:Kd.C (Kd.int .u8) w A0 l0.length l0) (hc0:l0.length<=c0) (hr1:Kd.C (Kd.int .u8) w A1 l1.length l1) (hc1:l1.length<=c1) (h:bits_Begins.f l0 l1 a2=some r):
 Calls Tryd.prog 83 #[.slice A0 l0.length c0,.slice A1 l1.length c1,.int .i64 a2] w fun e w'=>e = .returned (.bool r)/\Below w.heap.size w w':=by
 have HR0:=z_ hr0
 have HC0:=z_ hc0
 clear hr0 hc0
 have HR1:=z_ hr1
 have HC1:=z_ hc1
 clear hr1 hc1
 have HB:=z_ (Below.refl w.heap.size w)
 have H:(if a2<1 then (some true) else (if a2<=(wrap64 (8*(mn (l0.length:Int) (l1.length:Int)))) then ((bits_Common.f l0 l1).bind fun t358=>(some (decide (t358>=a2)))) else (some false)))=some r:=h
 clear h
 by_cases c4:a2<1
 ·rw [if_pos c4] at H
  have c4b0:decide (a2<1)=true:=decide_eq_true c4
  clear c4
  obtain rfl:=Option.some.inj H
  go_enter Tryd.func83,Tryd.ntmps83
  go_wp2
  go_ret
  exact ⟨by first|rfl|(simp [errW_none,errW_some]<;>rfl)|(simp [*,errW_none,errW_some]<;>rfl),by repeat (first|(with_reducible first|exact HB.out|apply below_alloc|apply pw_below_drewN|apply below_drew1)|exact HB.out)⟩
 ·rw [if_neg c4] at H
  have c4b0:decide (a2<1)=false:=decide_eq_false c4
  clear c4
  obtain ⟨ji5,hji5⟩ : ∃j_:Int,(mn (l0.length:Int) (l1.length:Int))=j_:=⟨_,rfl⟩
  replace H:(if a2<=(wrap64 (8*(ji5))) then ((bits_Common.f l0 l1).bind fun t358=>(some (decide (t358>=a2)))) else (some false))=some r:=by first|(rw [hji5] at H;exact H)|(simp only [hji5] at H ⊢;exact H)
  (try (have hji5l:0<=ji5:=by (rw [<-hji5];unfold mn;(repeat' split)<;>omega)))
  (try (have hji5m:0<=ji5:=by omega))
  have hji5_:(if (l1.length:Int)<(l0.length:Int) then (l1.length:Int) else (l0.length:Int))=ji5:=hji5
  (try (have hji5n_:(if l1.length<l0.length then (l1.length:Int) else (l0.length:Int))=ji5:=(by rw [<-hji5_];split<;>split<;>omega)))
  by_cases c6:a2<=(wrap64 (8*(ji5)))
  ·rw [if_pos c6] at H
   have c6b0:decide (a2<=(wrap64 (8*(ji5))))=true:=decide_eq_true c6
   clear c6
   replace H:=Option.bind_eq_some_iff.mp H
   obtain ⟨t358,A70,H⟩:=H
   replace H:(some (decide (t358>=a2)))=some r:=H
   have A7:=z_ A70
   clear A70
   obtain rfl:=Option.some.inj H
   go_enter Tryd.func83,Tryd.ntmps83
   go_wp2_with (first|(go_at_call 86;(with_reducible refine (bits_Common.calls _ _ l0 _ _ l1 t358 _ ?side1 ?side2 ?side3 ?side4 A7.out).mono ?_);(case side1=>repeat (first|exact HR0.out|(with_reducible refine Kd.C_alloc ?_ _)|(with_reducible refine Kd.C_drewN ?_ _)|(with_reducible refine Kd.C_drew ?_)));(case side2=>exact HC0.out);(case side3=>repeat (first|exact HR1.out|(with_reducible refine Kd.C_alloc ?_ _)|(with_reducible refine Kd.C_drewN ?_ _)|(with_reducible refine Kd.C_drew ?_)));(case side4=>exact HC1.out);rintro e w8 ⟨rfl,hb⟩;have n0_:=z_ (below_step (by repeat (first|(with_reducible first|exact HB.out|apply below_alloc|apply pw_below_drewN|apply below_drew1)|exact HB.out)) hb);clear HB;have HB:=n0_;clear n0_;(try clear hb);(try clear hb2);(try clear hk);(try clear hi)))
   go_ret
   exact ⟨by first|rfl|(simp [errW_none,errW_some]<;>rfl)|(simp only [<-hji5];first|rfl|(simp [errW_none,errW_some]<;>rfl))|(simp [*,errW_none,errW_some]<;>rfl),by repeat (first|(with_reducible first|exact HB.out|apply below_alloc|apply pw_below_drewN|apply below_drew1)|exact HB.out)⟩
  ·rw [if_neg c6] at H
   have c6b0:decide (a2<=(wrap64 (8*(ji5))))=false:=decide_eq_false c6
   clear c6
   obtain rfl:=Option.some.inj H
   go_enter Tryd.func83,Tryd.ntmps83
   go_wp2
   go_ret
   exact ⟨by first|rfl|(simp [errW_none,errW_some]<;>rfl)|(simp only [<-hji5];first|rfl|(simp [errW_none,errW_some]<;>rfl))|(simp [*,errW_none,errW_some]<;>rfl),by repeat (first|(with_reducible first|exact HB.out|apply below_alloc|apply pw_below_drewN|apply below_drew1)|exact HB.out)⟩
def bits_Bit.j0:Nat->List Int->Int->Bool->Option (Int)
 | 0,_,_,_=>none
 | k+1,x0,x1,x13=>if x13=true then (some (-1)) else (if 0<=(x1/8) then (if (x1/8)<(x0.length:Int) then (if 0<=(Go.bits .and .i64 x1 7) then (if (Go.bits .and .u8 (rd x0 (x1/8)) (shr .u8 128 (Go.bits .and .i64 x1 7)))=0 then (some 0) else (some 1)) else (none)) else (none)) else (none))
def bits_Bit.f (k:Nat) (l0:List Int) (a1:Int):Option (Int):=if a1<0 then (bits_Bit.j0 k l0 a1 true) else (bits_Bit.j0 k l0 a1 (decide ((a1/8)>=(l0.length:Int))))
theorem bits_Bit.mono_l : ∀k,(∀y0 y1 y2,LeO (bits_Bit.j0 k y0 y1 y2) (bits_Bit.j0 (k+1) y0 y1 y2))
 | 0=>fun _ _ _ r h=>by simp [bits_Bit.j0] at h
 | k+1=>by
   have ih0:=bits_Bit.mono_l k
   ·intro y0 y1 y2
    unfold bits_Bit.j0
    repeat' first
    | (with_reducible exact ih0 _ _ _)
    | (with_reducible exact LeO.refl _)
    | (with_reducible exact LeO.none _)
    | (with_reducible refine LeO.ite ?_ ?_)
    | (with_reducible refine LeO.bind ?_ (fun _=>?_))
    | exact ih0 _ _ _
    | exact LeO.none _
    | refine LeO.ite ?_ ?_
    | refine LeO.bind ?_ (fun _=>?_)
theorem bits_Bit.mono : ∀a0 a1 k,LeO (bits_Bit.f k a0 a1) (bits_Bit.f (k+1) a0 a1):=by
 intro a0 a1 k
 have ih0:=bits_Bit.mono_l k
 unfold bits_Bit.f
 repeat' first
  | (with_reducible exact ih0 _ _ _)
  | (with_reducible exact LeO.refl _)
  | (with_reducible exact LeO.none _)
  | (with_reducible refine LeO.ite ?_ ?_)
  | (with_reducible refine LeO.bind ?_ (fun _=>?_))
  | exact ih0 _ _ _
  | exact LeO.none _
  | refine LeO.ite ?_ ?_
  | refine LeO.bind ?_ (fun _=>?_)
set_option maxHeartbeats 8000000 in
set_option maxRecDepth 100000 in
theorem bits_Bit.calls (k:Nat) (A0:Option Addr) (c0:Nat) (l0:List Int) (a1:Int) (r:Int) (w:World) (hr0:Kd.C (Kd.int .u8) w A0 l0.length l0) (hc0:l0.length<=c0) (h:bits_Bit.f k l0 a1=some r):
 Calls Tryd.prog 58 #[.slice A0 l0.length c0,.int .i64 a1] w fun e w'=>e = .returned (.int .i64 r)/\Drawn0 w w':=by
 have HR0:=z_ hr0
 have HC0:=z_ hc0
 clear hr0 hc0
 have H:(if a1<0 then (bits_Bit.j0 k l0 a1 true) else (bits_Bit.j0 k l0 a1 (decide ((a1/8)>=(l0.length:Int)))))=some r:=h
 clear h
 have HC3:=z_ H
 clear H
 go_enter Tryd.func58,Tryd.ntmps58
 go_upto_region 1 with (fail)
 repeat (go_quiet (fail);go_upto_region 1 with (fail))
 go_cut [13] (fun v13 wc=>∃(kq:Nat) (x13_2:Bool),v13 = .bool x13_2/\Aside0 (bits_Bit.j0 kq l0 a1 x13_2=some r)/\Aside0 (kq<=k)/\Drawn0 w wc)
 case first=>
  have H:=HC3.out
  clear HC3
  by_cases c4:a1<0
  ·rw [if_pos c4] at H
   have c4b0:decide (a1<0)=true:=decide_eq_true c4
   clear c4
   (first|rw [c4b0]|(simp only [i64_w,i32_w];rw [c4b0])|skip)
   have H':=z_ H
   clear H
   go_wp2
   repeat (go_quiet (fail);try go_wp2)
   go_meet
   case rel=>exact ⟨_,(true),(by first|rfl|(simp;done)|(simp [*];done)),H',⟨by first|omega|exact Nat.le_refl _⟩,by repeat (first|exact Drawn0.refl _|apply Drawn0.step)⟩
  ·rw [if_neg c4] at H
   have c4b0:decide (a1<0)=false:=decide_eq_false c4
   clear c4
   (first|rw [c4b0]|(simp only [i64_w,i32_w];rw [c4b0])|skip)
   have H':=z_ H
   clear H
   go_wp2
   repeat (go_quiet (fail);try go_wp2)
   go_meet
   case rel=>exact ⟨_,(decide ((a1/8)>=(l0.length:Int))),(by first|rfl|(simp;done)|(simp [*];done)),H',⟨by first|omega|exact Nat.le_refl _⟩,by repeat (first|exact Drawn0.refl _|apply Drawn0.step)⟩
 case rest=>
  clear HC3
  try clear p2
  try clear c4
  try clear c4b0
  obtain ⟨kq,x13_2,rfl,HA,HJ2,⟨mc2,rfl⟩⟩:=hcut
  cases kq with
  | zero=>exact absurd HA.out (by simp [bits_Bit.j0])
  | succ kj2=>
    have H:=HA.out
    clear HA
    simp only [bits_Bit.j0] at H
    by_cases c5:x13_2=true
    ·subst c5
     have H1:(some (-1))=some r:=by rw [if_pos rfl] at H;exact H
     clear H
     have H:=H1
     clear H1
     obtain rfl:=Option.some.inj H
     go_wp2
     repeat (go_quiet (fail);try go_wp2)
     go_ret
     exact ⟨by first|rfl|(simp;done)|(simp [*];done),by repeat (first|exact Drawn0.refl _|apply Drawn0.step)⟩
    ·replace c5:=Bool.eq_false_iff.mpr c5
     subst c5
     have H1:(if 0<=(a1/8) then (if (a1/8)<(l0.length:Int) then (if 0<=(Go.bits .and .i64 a1 7) then (if (Go.bits .and .u8 (rd l0 (a1/8)) (shr .u8 128 (Go.bits .and .i64 a1 7)))=0 then (some 0) else (some 1)) else (none)) else (none)) else (none))=some r:=by rw [if_neg (show ¬(false=true) by decide)] at H;exact H
     clear H
     have H:=H1
     clear H1
     obtain ⟨ji6,hji6⟩ : ∃j_:Int,(a1/8)=j_:=⟨_,rfl⟩
     replace H:(if 0<=(ji6) then (if (ji6)<(l0.length:Int) then (if 0<=(Go.bits .and .i64 a1 7) then (if (Go.bits .and .u8 (rd l0 (ji6)) (shr .u8 128 (Go.bits .and .i64 a1 7)))=0 then (some 0) else (some 1)) else (none)) else (none)) else (none))=some r:=by first|(rw [hji6] at H;exact H)|(simp only [hji6] at H ⊢;exact H)
     by_cases c7:0<=(ji6)
     ·rw [if_pos c7] at H
      have c7b0:decide (0<=(ji6))=true:=decide_eq_true c7
      clear c7
      by_cases c8:(ji6)<(l0.length:Int)
      ·rw [if_pos c8] at H
       have c8b0:decide ((ji6)<(l0.length:Int))=true:=decide_eq_true c8
       clear c8
       by_cases c9:0<=(Go.bits .and .i64 a1 7)
       ·rw [if_pos c9] at H
        have c9b0:=eq_true c9
        have c9b1:decide (0<=(Go.bits .and .i64 a1 7))=true:=decide_eq_true c9
        clear c9
        obtain ⟨ji10,hji10⟩ : ∃j_:Int,(shr .u8 128 (Go.bits .and .i64 a1 7))=j_:=⟨_,rfl⟩
        replace H:(if (Go.bits .and .u8 (rd l0 (ji6)) (ji10))=0 then (some 0) else (some 1))=some r:=by first|(rw [hji10] at H;exact H)|(simp only [hji10] at H ⊢;exact H)
        have hji10_:(128/2^min (Go.bits .and .i64 a1 7).toNat 8)=ji10:=hji10
        have hji10z:(Go.bits .and .i64 a1 7)<=8->(128/2^(Go.bits .and .i64 a1 7).toNat)=ji10:=shr_small hji10
        by_cases c11:(Go.bits .and .u8 (rd l0 (ji6)) (ji10))=0
        ·rw [if_pos c11] at H
         have c11b0:((Go.bits .and .u8 (rd l0 (ji6)) (ji10))==0)=true:=beq_iff_eq.mpr c11
         have c11b1:((Go.bits .and .u8 (rd l0 (ji6)) (ji10)) !=0)=false:=bne_eq_false_iff_eq.mpr c11
         clear c11
         obtain rfl:=Option.some.inj H
         have p359:0<=((ji6):Int):=of_decide_eq_true (by first|(with_reducible assumption)|assumption)
         have q359:(ji6)<(l0.length:Int):=of_decide_eq_true (by first|(with_reducible assumption)|assumption)
         obtain ⟨ad359,e359,hx359_0⟩:=Kd.at_int HR0.out (ji6) p359 q359
         cases e359
         replace p359:=eq_true p359
         replace q359:=eq_true q359
         go_wp2
         repeat (go_quiet (fail);try go_wp2)
         go_ret
         exact ⟨by first|rfl|(simp;done)|(simp only [<-hji6,<-hji10]<;>(first|rfl|simp))|(simp [*];done),by repeat (first|exact Drawn0.refl _|apply Drawn0.step)⟩
        ·rw [if_neg c11] at H
         have c11b0:((Go.bits .and .u8 (rd l0 (ji6)) (ji10))==0)=false:=beq_eq_false_iff_ne.mpr c11
         have c11b1:((Go.bits .and .u8 (rd l0 (ji6)) (ji10)) !=0)=true:=bne_iff_ne.mpr c11
         obtain rfl:=Option.some.inj H
         have p359:0<=((ji6):Int):=of_decide_eq_true (by first|(with_reducible assumption)|assumption)
         have q359:(ji6)<(l0.length:Int):=of_decide_eq_true (by first|(with_reducible assumption)|assumption)
         obtain ⟨ad359,e359,hx359_0⟩:=Kd.at_int HR0.out (ji6) p359 q359
         cases e359
         replace p359:=eq_true p359
         replace q359:=eq_true q359
         go_wp2
         repeat (go_quiet (fail);try go_wp2)
         go_ret
         exact ⟨by first|rfl|(simp;done)|(simp only [<-hji6,<-hji10]<;>(first|rfl|simp))|(simp [*];done),by repeat (first|exact Drawn0.refl _|apply Drawn0.step)⟩
       ·rw [if_neg c9] at H
        exact absurd H (by simp)
      ·rw [if_neg c8] at H
       exact absurd H (by simp)
     ·rw [if_neg c7] at H
      exact absurd H (by simp)
end Go.Proofs.YtdeneoknjeegbaaDoor.P
end
