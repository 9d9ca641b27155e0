/- Lemmas of this claim, part 10. -/
import Derived.Test.YtdeneoknjeegbaaGreatDoorPartPtreeLives2
import Derived.Test.YtdeneoknjeegbaaGreatDoorPartPtreeLives9
import Derived.Test.YtdeneoknjeegbaaGreatDoorPartPtreeLives5
import Derived.Laws.BitsAllLaws
set_option linter.unusedVariables false
set_option linter.unusedSimpArgs false
section
namespace Go.Proofs.YtdeneoknjeegbaaGreatDoor.P
open Go.RowKit YtdeneoknjeegbaaGreatDoorW.PrintWords YtdeneoknjeegbaaGreatDoorW.PrintLast YtdeneoknjeegbaaGreatDoorW.PrintMore
attribute [local go_sem] max2_int min2_int max_two min_two max_three min_three max_four min_four
def bits_Bit.j0:Nat->List Int->Int->Bool->Option (Int)
 | 0,_,_,_=>none
 | k+1,x0,x1,x13=>if x13=true then (some (-1)) else (if 0<=(x1/8) then (if (x1/8)<(x0.length:Int) then (if 0<=(Go.bits .and .i64 x1 7) then (if (Go.bits .and .u8 (rd x0 (x1/8)) (shr .u8 128 (Go.bits .and .i64 x1 7)))=0 then (some 0) else (some 1)) else (none)) else (none)) else (none))
def bits_Bit.f (k:Nat) (l0:List Int) (a1:Int):Option (Int):=if a1<0 then (bits_Bit.j0 k l0 a1 true) else (bits_Bit.j0 k l0 a1 (decide ((a1/8)>=(l0.length:Int))))
set_option maxHeartbeats 8000000 in
set_option maxRecDepth 100000 in
theorem bits_Bit.calls (k:Nat) (A0:Option Addr) (c0:Nat) (l0:List Int) (a1:Int) (r:Int) (w:World) (hr0:Kd.C (Kd.int .u8) w A0 l0.length l0) (hc0:l0.length<=c0) (h:bits_Bit.f k l0 a1=some r):
 Calls Tryz.prog 30 #[.slice A0 l0.length c0,.int .i64 a1] w fun e w'=>e = .returned (.int .i64 r)/\Drawn0 w w':=by
 have HR0:=z_ hr0
 have HC0:=z_ hc0
 clear hr0 hc0
 have H:(if a1<0 then (bits_Bit.j0 k l0 a1 true) else (bits_Bit.j0 k l0 a1 (decide ((a1/8)>=(l0.length:Int)))))=some r:=h
 clear h
 have HC3:=z_ H
 clear H
 go_enter Tryz.func30,Tryz.ntmps30
 go_upto_region 1 with (fail)
 repeat (go_quiet (fail);go_upto_region 1 with (fail))
 go_cut [13] (fun v13 wc=>∃(kq:Nat) (x13_2:Bool),v13 = .bool x13_2/\Aside0 (bits_Bit.j0 kq l0 a1 x13_2=some r)/\Aside0 (kq<=k)/\Drawn0 w wc)
 case first=>
  have H:=HC3.out
  clear HC3
  by_cases c4:a1<0
  ·rw [if_pos c4] at H
   have c4b0:decide (a1<0)=true:=decide_eq_true c4
   clear c4
   (first|rw [c4b0]|(simp only [i64_w,i32_w];rw [c4b0])|skip)
   have H':=z_ H
   clear H
   go_wp2
   repeat (go_quiet (fail);try go_wp2)
   go_meet
   case rel=>exact ⟨_,(true),(by first|rfl|(simp;done)|(simp [*];done)),H',⟨by first|omega|exact Nat.le_refl _⟩,by repeat (first|exact Drawn0.refl _|apply Drawn0.step)⟩
  ·rw [if_neg c4] at H
   have c4b0:decide (a1<0)=false:=decide_eq_false c4
   clear c4
   (first|rw [c4b0]|(simp only [i64_w,i32_w];rw [c4b0])|skip)
   have H':=z_ H
   clear H
   go_wp2
   repeat (go_quiet (fail);try go_wp2)
   go_meet
   case rel=>exact ⟨_,(decide ((a1/8)>=(l0.length:Int))),(by first|rfl|(simp;done)|(simp [*];done)),H',⟨by first|omega|exact Nat.le_refl _⟩,by repeat (first|exact Drawn0.refl _|apply Drawn0.step)⟩
 case rest=>
  clear HC3
  try clear p2
  try clear c3
  try clear c4
  try clear c4b0
  obtain ⟨kq,x13_2,rfl,HA,HJ2,⟨mc2,rfl⟩⟩:=hcut
  cases kq with
  | zero=>exact absurd HA.out (by simp [bits_Bit.j0])
  | succ kj2=>
    have H:=HA.out
    clear HA
    simp only [bits_Bit.j0] at H
    by_cases c5:x13_2=true
    ·subst c5
     have H1:(some (-1))=some r:=by rw [if_pos rfl] at H;exact H
     clear H
     have H:=H1
     clear H1
     obtain rfl:=Option.some.inj H
     go_wp2
     repeat (go_quiet (fail);try go_wp2)
     go_ret
     exact ⟨by first|rfl|(simp;done)|(simp [*];done),by repeat (first|exact Drawn0.refl _|apply Drawn0.step)⟩
    ·replace c5:=Bool.eq_false_iff.mpr c5
     subst c5
     have H1:(if 0<=(a1/8) then (if (a1/8)<(l0.length:Int) then (if 0<=(Go.bits .and .i64 a1 7) then (if (Go.bits .and .u8 (rd l0 (a1/8)) (shr .u8 128 (Go.bits .and .i64 a1 7)))=0 then (some 0) else (some 1)) else (none)) else (none)) else (none))=some r:=by rw [if_neg (show ¬(false=true) by decide)] at H;exact H
     clear H
     have H:=H1
     clear H1
     obtain ⟨ji6,hji6⟩ : ∃j_:Int,(a1/8)=j_:=⟨_,rfl⟩
     replace H:(if 0<=(ji6) then (if (ji6)<(l0.length:Int) then (if 0<=(Go.bits .and .i64 a1 7) then (if (Go.bits .and .u8 (rd l0 (ji6)) (shr .u8 128 (Go.bits .and .i64 a1 7)))=0 then (some 0) else (some 1)) else (none)) else (none)) else (none))=some r:=by first|(rw [hji6] at H;exact H)|(simp only [hji6] at H ⊢;exact H)
     by_cases c7:0<=(ji6)
     ·rw [if_pos c7] at H
      have c7b0:decide (0<=(ji6))=true:=decide_eq_true c7
      clear c7
      by_cases c8:(ji6)<(l0.length:Int)
      ·rw [if_pos c8] at H
       have c8b0:decide ((ji6)<(l0.length:Int))=true:=decide_eq_true c8
       clear c8
       by_cases c9:0<=(Go.bits .and .i64 a1 7)
       ·rw [if_pos c9] at H
        have c9b0:=eq_true c9
        have c9b1:decide (0<=(Go.bits .and .i64 a1 7))=true:=decide_eq_true c9
        clear c9
        obtain ⟨ji10,hji10⟩ : ∃j_:Int,(shr .u8 128 (Go.bits .and .i64 a1 7))=j_:=⟨_,rfl⟩
        replace H:(if (Go.bits .and .u8 (rd l0 (ji6)) (ji10))=0 then (some 0) else (some 1))=some r:=by first|(rw [hji10] at H;exact H)|(simp only [hji10] at H ⊢;exact H)
        have hji10_:(128/2^min (Go.bits .and .i64 a1 7).toNat 8)=ji10:=hji10
        have hji10z:(Go.bits .and .i64 a1 7)<=8->(128/2^(Go.bits .and .i64 a1 7).toNat)=ji10:=shr_small hji10
        by_cases c11:(Go.bits .and .u8 (rd l0 (ji6)) (ji10))=0
        ·rw [if_pos c11] at H
         have c11b0:((Go.bits .and .u8 (rd l0 (ji6)) (ji10))==0)=true:=beq_iff_eq.mpr c11
         have c11b1:((Go.bits .and .u8 (rd l0 (ji6)) (ji10)) !=0)=false:=bne_eq_false_iff_eq.mpr c11
         clear c11
         obtain rfl:=Option.some.inj H
         have p156:0<=((ji6):Int):=of_decide_eq_true (by first|(with_reducible assumption)|assumption)
         have q156:(ji6)<(l0.length:Int):=of_decide_eq_true (by first|(with_reducible assumption)|assumption)
         obtain ⟨ad156,e156,hx156_0⟩:=Kd.at_int HR0.out (ji6) p156 q156
         cases e156
         replace p156:=eq_true p156
         replace q156:=eq_true q156
         go_wp2
         repeat (go_quiet (fail);try go_wp2)
         go_ret
         exact ⟨by first|rfl|(simp;done)|(simp only [<-hji6,<-hji10]<;>(first|rfl|simp))|(simp [*];done),by repeat (first|exact Drawn0.refl _|apply Drawn0.step)⟩
        ·rw [if_neg c11] at H
         have c11b0:((Go.bits .and .u8 (rd l0 (ji6)) (ji10))==0)=false:=beq_eq_false_iff_ne.mpr c11
         have c11b1:((Go.bits .and .u8 (rd l0 (ji6)) (ji10)) !=0)=true:=bne_iff_ne.mpr c11
         obtain rfl:=Option.some.inj H
         have p156:0<=((ji6):Int):=of_decide_eq_true (by first|(with_reducible assumption)|assumption)
         have q156:(ji6)<(l0.length:Int):=of_decide_eq_true (by first|(with_reducible assumption)|assumption)
         obtain ⟨ad156,e156,hx156_0⟩:=Kd.at_int HR0.out (ji6) p156 q156
         cases e156
         replace p156:=eq_true p156
         replace q156:=eq_true q156
         go_wp2
         repeat (go_quiet (fail);try go_wp2)
         go_ret
         exact ⟨by first|rfl|(simp;done)|(simp only [<-hji6,<-hji10]<;>(first|rfl|simp))|(simp [*];done),by repeat (first|exact Drawn0.refl _|apply Drawn0.step)⟩
       ·rw [if_neg c9] at H
        exact absurd H (by simp)
      ·rw [if_neg c8] at H
       exact absurd H (by simp)
     ·rw [if_neg c7] at H
      exact absurd H (by simp)
def ptree_below.f (k:Nat) (a0_0:Bool) (l0_1:List Int) (l0_2:List Int) (a0_3:Int) (a0_4:Int) (l0_5:List Int) (a0_6:Int) (a0_7:Int) (a0_8:Int) (l0_9:List Int) (l1:List Int):Option (Int):=(bits_Bit.f k l1 a0_4).bind fun t158=>(if t158=1 then (some a0_8) else (some a0_7))
set_option maxHeartbeats 8000000 in
set_option maxRecDepth 100000 in
theorem ptree_below.calls (k:Nat) (a0_0:Bool) (A0_1:Option Addr) (c0_1:Nat) (l0_1:List Int) (A0_2:Option Addr) (c0_2:Nat) (l0_2:List Int) (a0_3:Int) (a0_4:Int) (A0_5:Option Addr) (c0_5:Nat) (l0_5:List Int) (a0_6:Int) (a0_7:Int) (a0_8:Int) (A0_9:Option Addr) (c0_9:Nat) (l0_9:List Int) (A1:Option Addr) (c1:Nat) (l1:List Int) (r:Int) (w:World) (hr0_1:Kd.C (Kd.int .u8) w A0_1 l0_1.length l0_1) (hc0_1:l0_1.length<=c0_1) (hr0_2:Kd.C (Kd.int .u8) w A0_2 l0_2.length l0_2) (hc0_2:l0_2.length<=c0_2) (hr0_5:Kd.C (Kd.int .u8) w A0_5 l0_5.length l0_5) (hc0_5:l0_5.length<=c0_5) (hr0_9:Kd.C (Kd.int .u8) w A0_9 l0_9.length l0_9) (hc0_9:l0_9.length<=c0_9) (hr1:Kd.C (Kd.int .u8) w A1 l1.length l1) (hc1:l1.length<=c1) (h:ptree_below.f k a0_0 l0_1 l0_2 a0_3 a0_4 l0_5 a0_6 a0_7 a0_8 l0_9 l1=some r):
 Calls Tryz.prog 53 #[.agg #[.bool a0_0,.slice A0_1 l0_1.length c0_1,.slice A0_2 l0_2.length c0_2,.int .i64 a0_3,.int .i64 a0_4,.slice A0_5 l0_5.length c0_5,.int .i64 a0_6,.int .i64 a0_7,.int .i64 a0_8,.slice A0_9 l0_9.length c0_9],.slice A1 l1.length c1] w fun e w'=>e = .returned (.int .i64 r)/\Below w.heap.size w w':=by
 have hu59:=Tryz.underlying59
 have HR0_1:=z_ hr0_1
 have HC0_1:=z_ hc0_1
 clear hr0_1 hc0_1
 have HR0_2:=z_ hr0_2
 have HC0_2:=z_ hc0_2
 clear hr0_2 hc0_2
 have HR0_5:=z_ hr0_5
 have HC0_5:=z_ hc0_5
 clear hr0_5 hc0_5
 have HR0_9:=z_ hr0_9
 have HC0_9:=z_ hc0_9
 clear hr0_9 hc0_9
 have HR1:=z_ hr1
 have HC1:=z_ hc1
 clear hr1 hc1
 have HB:=z_ (Below.refl w.heap.size w)
 have H:((bits_Bit.f k l1 a0_4).bind fun t158=>(if t158=1 then (some a0_8) else (some a0_7)))=some r:=h
 clear h
 replace H:=Option.bind_eq_some_iff.mp H
 obtain ⟨t158,A30,H⟩:=H
 replace H:(if t158=1 then (some a0_8) else (some a0_7))=some r:=H
 have A3:=z_ A30
 clear A30
 by_cases c4:t158=1
 ·rw [if_pos c4] at H
  have c4b0:(t158==1)=true:=beq_iff_eq.mpr c4
  have c4b1:(t158 !=1)=false:=bne_eq_false_iff_eq.mpr c4
  clear c4
  obtain rfl:=Option.some.inj H
  go_enter Tryz.func53,Tryz.ntmps53
  go_wp2_with (first|((with_reducible refine gate_dst (N:=2) rfl ?_);refine box_event ?hg (N:=2) ?hd (cs:=#[.bool a0_0,.slice A0_1 l0_1.length c0_1,.slice A0_2 l0_2.length c0_2,.int .i64 a0_3,.int .i64 a0_4,.slice A0_5 l0_5.length c0_5,.int .i64 a0_6,.int .i64 a0_7,.int .i64 a0_8,.slice A0_9 l0_9.length c0_9]) (t:=59) ?hr ?_;(case hd=>rfl);(case hg=>rfl);(case hr=>first|(go_simp;done)|(go_simp;rfl));intro gb157 hg w5 hbox hb;have n0_:=z_ (below_step (by repeat (first|(with_reducible first|exact HB.out|apply below_alloc|apply pw_below_drewN|apply below_drew1)|exact HB.out)) hb);have n1_:=z_ (hbox);have n2_:=z_ ((by rw [hg];exact (below_size (by repeat (first|(with_reducible first|exact HB.out|apply below_alloc|apply pw_below_drewN|apply below_drew1)|exact HB.out))):w.heap.size<=gb157));have n3_:=z_ ((by rw [hg];exact (below_size (by repeat (first|(with_reducible first|exact HB.out|apply below_alloc|apply pw_below_drewN|apply below_drew1)|exact HB.out))):w.heap.size<=gb157));clear HB;have HB:=n0_;have BK157:=n1_;have GW157:=n2_;have GE157:=n3_;clear n0_ n1_ n2_ n3_;clear hb hbox hg;have hcz6_0:w5.cell? ⟨gb157,0,none⟩=some (.bool a0_0):=(blk_cell BK157.out 0).trans rfl;have hcz6_1:w5.cell? ⟨gb157,1,none⟩=some (.slice A0_1 l0_1.length c0_1):=(blk_cell BK157.out 1).trans rfl;have hcz6_2:w5.cell? ⟨gb157,2,none⟩=some (.slice A0_2 l0_2.length c0_2):=(blk_cell BK157.out 2).trans rfl;have hcz6_3:w5.cell? ⟨gb157,3,none⟩=some (.int .i64 a0_3):=(blk_cell BK157.out 3).trans rfl;have hcz6_4:w5.cell? ⟨gb157,4,none⟩=some (.int .i64 a0_4):=(blk_cell BK157.out 4).trans rfl;have hcz6_5:w5.cell? ⟨gb157,5,none⟩=some (.slice A0_5 l0_5.length c0_5):=(blk_cell BK157.out 5).trans rfl;have hcz6_6:w5.cell? ⟨gb157,6,none⟩=some (.int .i64 a0_6):=(blk_cell BK157.out 6).trans rfl;have hcz6_7:w5.cell? ⟨gb157,7,none⟩=some (.int .i64 a0_7):=(blk_cell BK157.out 7).trans rfl;have hcz6_8:w5.cell? ⟨gb157,8,none⟩=some (.int .i64 a0_8):=(blk_cell BK157.out 8).trans rfl;have hcz6_9:w5.cell? ⟨gb157,9,none⟩=some (.slice A0_9 l0_9.length c0_9):=(blk_cell BK157.out 9).trans rfl;have hfz6_0:=blk_frozen BK157.out 0;have hfz6_1:=blk_frozen BK157.out 1;have hfz6_2:=blk_frozen BK157.out 2;have hfz6_3:=blk_frozen BK157.out 3;have hfz6_4:=blk_frozen BK157.out 4;have hfz6_5:=blk_frozen BK157.out 5;have hfz6_6:=blk_frozen BK157.out 6;have hfz6_7:=blk_frozen BK157.out 7;have hfz6_8:=blk_frozen BK157.out 8;have hfz6_9:=blk_frozen BK157.out 9)|((with_reducible refine gate_callee (f:=30) rfl ?_);refine goesL_ (some 8) rfl rfl Tryz.func30 (by kernel_rfl) rfl #[.slice A1 l1.length c1,.int .i64 a0_4] rfl (by (try simp only [List.map_toArray,List.map_cons,List.map_nil]);first|done|rfl|(simp only [List.length_drop,List.length_take];rfl)) ?_;(with_reducible refine (bits_Bit.calls k _ _ l1 a0_4 t158 _ ?side1 ?side2 A3.out).mono ?_);(case side1=>repeat (first|exact (Kd.C_below HR1.out HB.out)|(with_reducible refine Kd.C_alloc ?_ _)|(with_reducible refine Kd.C_drewN ?_ _)|(with_reducible refine Kd.C_drew ?_)));(case side2=>exact HC1.out);rintro e w' ⟨rfl,⟨nd,rfl⟩⟩;refine ⟨_,rfl,?_⟩))
  go_ret
  exact ⟨by first|rfl|(simp [errW_none,errW_some]<;>rfl)|(simp [*,errW_none,errW_some]<;>rfl),by repeat (first|(with_reducible first|exact HB.out|apply below_alloc|apply pw_below_drewN|apply below_drew1|refine below_set ?_ GE157.out)|exact HB.out)⟩
 ·rw [if_neg c4] at H
  have c4b0:(t158==1)=false:=beq_eq_false_iff_ne.mpr c4
  have c4b1:(t158 !=1)=true:=bne_iff_ne.mpr c4
  obtain rfl:=Option.some.inj H
  go_enter Tryz.func53,Tryz.ntmps53
  go_wp2_with (first|((with_reducible refine gate_dst (N:=2) rfl ?_);refine box_event ?hg (N:=2) ?hd (cs:=#[.bool a0_0,.slice A0_1 l0_1.length c0_1,.slice A0_2 l0_2.length c0_2,.int .i64 a0_3,.int .i64 a0_4,.slice A0_5 l0_5.length c0_5,.int .i64 a0_6,.int .i64 a0_7,.int .i64 a0_8,.slice A0_9 l0_9.length c0_9]) (t:=59) ?hr ?_;(case hd=>rfl);(case hg=>rfl);(case hr=>first|(go_simp;done)|(go_simp;rfl));intro gb157 hg w7 hbox hb;have n0_:=z_ (below_step (by repeat (first|(with_reducible first|exact HB.out|apply below_alloc|apply pw_below_drewN|apply below_drew1)|exact HB.out)) hb);have n1_:=z_ (hbox);have n2_:=z_ ((by rw [hg];exact (below_size (by repeat (first|(with_reducible first|exact HB.out|apply below_alloc|apply pw_below_drewN|apply below_drew1)|exact HB.out))):w.heap.size<=gb157));have n3_:=z_ ((by rw [hg];exact (below_size (by repeat (first|(with_reducible first|exact HB.out|apply below_alloc|apply pw_below_drewN|apply below_drew1)|exact HB.out))):w.heap.size<=gb157));clear HB;have HB:=n0_;have BK157:=n1_;have GW157:=n2_;have GE157:=n3_;clear n0_ n1_ n2_ n3_;clear hb hbox hg;have hcz8_0:w7.cell? ⟨gb157,0,none⟩=some (.bool a0_0):=(blk_cell BK157.out 0).trans rfl;have hcz8_1:w7.cell? ⟨gb157,1,none⟩=some (.slice A0_1 l0_1.length c0_1):=(blk_cell BK157.out 1).trans rfl;have hcz8_2:w7.cell? ⟨gb157,2,none⟩=some (.slice A0_2 l0_2.length c0_2):=(blk_cell BK157.out 2).trans rfl;have hcz8_3:w7.cell? ⟨gb157,3,none⟩=some (.int .i64 a0_3):=(blk_cell BK157.out 3).trans rfl;have hcz8_4:w7.cell? ⟨gb157,4,none⟩=some (.int .i64 a0_4):=(blk_cell BK157.out 4).trans rfl;have hcz8_5:w7.cell? ⟨gb157,5,none⟩=some (.slice A0_5 l0_5.length c0_5):=(blk_cell BK157.out 5).trans rfl;have hcz8_6:w7.cell? ⟨gb157,6,none⟩=some (.int .i64 a0_6):=(blk_cell BK157.out 6).trans rfl;have hcz8_7:w7.cell? ⟨gb157,7,none⟩=some (.int .i64 a0_7):=(blk_cell BK157.out 7).trans rfl;have hcz8_8:w7.cell? ⟨gb157,8,none⟩=some (.int .i64 a0_8):=(blk_cell BK157.out 8).trans rfl;have hcz8_9:w7.cell? ⟨gb157,9,none⟩=some (.slice A0_9 l0_9.length c0_9):=(blk_cell BK157.out 9).trans rfl;have hfz8_0:=blk_frozen BK157.out 0;have hfz8_1:=blk_frozen BK157.out 1;have hfz8_2:=blk_frozen BK157.out 2;have hfz8_3:=blk_frozen BK157.out 3;have hfz8_4:=blk_frozen BK157.out 4;have hfz8_5:=blk_frozen BK157.out 5;have hfz8_6:=blk_frozen BK157.out 6;have hfz8_7:=blk_frozen BK157.out 7;have hfz8_8:=blk_frozen BK157.out 8;have hfz8_9:=blk_frozen BK157.out 9)|((with_reducible refine gate_callee (f:=30) rfl ?_);refine goesL_ (some 8) rfl rfl Tryz.func30 (by kernel_rfl) rfl #[.slice A1 l1.length c1,.int .i64 a0_4] rfl (by (try simp only [List.map_toArray,List.map_cons,List.map_nil]);first|done|rfl|(simp only [List.length_drop,List.length_take];rfl)) ?_;(with_reducible refine (bits_Bit.calls k _ _ l1 a0_4 t158 _ ?side1 ?side2 A3.out).mono ?_);(case side1=>repeat (first|exact (Kd.C_below HR1.out HB.out)|(with_reducible refine Kd.C_alloc ?_ _)|(with_reducible refine Kd.C_drewN ?_ _)|(with_reducible refine Kd.C_drew ?_)));(case side2=>exact HC1.out);rintro e w' ⟨rfl,⟨nd,rfl⟩⟩;refine ⟨_,rfl,?_⟩))
  go_ret
  exact ⟨by first|rfl|(simp [errW_none,errW_some]<;>rfl)|(simp [*,errW_none,errW_some]<;>rfl),by repeat (first|(with_reducible first|exact HB.out|apply below_alloc|apply pw_below_drewN|apply below_drew1|refine below_set ?_ GE157.out)|exact HB.out)⟩
end Go.Proofs.YtdeneoknjeegbaaGreatDoor.P
end
section
namespace Go.Proofs.YtdeneoknjeegbaaGreatDoor.P
open Go.RowKit YtdeneoknjeegbaaGreatDoor.Pure YtdeneoknjeegbaaGreatDoorW.PrintWords YtdeneoknjeegbaaGreatDoorW.PrintLast YtdeneoknjeegbaaGreatDoorW.PrintMore
theorem strNum_eq {a b:List Int} (ha:BytesOk a) (hb:BytesOk b):((strOfNums a).toList==(strOfNums b).toList)=decide (a=b):=by
 have key : ∀ {a b:List Int},BytesOk a->BytesOk b->(a.map fun n=>UInt8.ofNat n.toNat)=(b.map fun n=>UInt8.ofNat n.toNat)->a=b:=by
  intro a
  induction a with
  | nil=>intro b _ _ h;cases b<;>simp_all
  | cons x xs ih=>
    intro b ha hb h
    cases b with
    | nil=>simp at h
    | cons y ys=>
      simp only [List.map_cons,List.cons.injEq] at h
      have hx:=ha x (by simp)
      have hy:=hb y (by simp)
      have h1:=congrArg UInt8.toNat h.1
      simp only [UInt8.toNat_ofNat'] at h1
      have h2:=ih (fun z hz=>ha z (List.mem_cons_of_mem _ hz)) (fun z hz=>hb z (List.mem_cons_of_mem _ hz)) h.2
      rw [h2,show x=y by omega]
 rw [ByteArray.toList_eq,ByteArray.toList_eq,strOfNums_data,strOfNums_data,Bool.eq_iff_iff,beq_iff_eq,decide_eq_true_eq]
 exact ⟨key ha hb,fun h=>by rw [h]⟩
def beginsB (l p:List Int) (n:Int):Bool:=if n<1 then true else if n<=8*(min l.length p.length:Nat) then decide (n<=bcommon l p) else false
theorem begins_f (l p:List Int) (n:Int) (hl:l.length<=1000000000000):bits_Begins.f l p n=some (beginsB l p n):=by
 have hw:wrap64 (8*mn (l.length:Int) (p.length:Int))=8*((min l.length p.length:Nat):Int):=by
  unfold mn
  rw [wrap64_id _ (by split<;>omega)]
  split<;>omega
 unfold bits_Begins.f beginsB
 rw [hw]
 unfold bits_Common.f
 rw [if_pos hl]
 by_cases h1:n<1
 ·rw [if_pos h1,if_pos h1]
 ·rw [if_neg h1,if_neg h1]
  by_cases h2:n<=8*((min l.length p.length:Nat):Int)
  ·rw [if_pos h2,if_pos h2]
   rfl
  ·rw [if_neg h2,if_neg h2]
def bitP (l:List Int) (a:Int):Int:=(bits_Bit.f 1 l a).getD 0
theorem bit_f (k:Nat) (l:List Int) (a:Int):bits_Bit.f (k+1) l a=some (bitP l a):=by
 have h7:0<=Go.bits .and .i64 a 7:=by rw [and7];omega
 have key : ∀(k:Nat) (x:Bool),(x=false->0<=a/8/\a/8<(l.length:Int))->∃r,∀j,bits_Bit.j0 (j+1) l a x=some r:=by
  intro k x hx
  cases x with
  | true=>exact ⟨-1,fun j=>rfl⟩
  | false=>
    obtain ⟨h1,h2⟩:=hx rfl
    by_cases hz:Go.bits .and .u8 (rd l (a/8)) (shr .u8 128 (Go.bits .and .i64 a 7))=0
    ·exact ⟨0,fun j=>by simp only [bits_Bit.j0];rw [if_neg (by simp),if_pos h1,if_pos h2,if_pos h7,if_pos hz]⟩
    ·exact ⟨1,fun j=>by simp only [bits_Bit.j0];rw [if_neg (by simp),if_pos h1,if_pos h2,if_pos h7,if_neg hz]⟩
 unfold bitP bits_Bit.f
 by_cases h0:a<0
 ·simp only [if_pos h0]
  obtain ⟨r,hr⟩:=key 0 true (fun h=>by cases h)
  rw [hr k,hr 0]
  rfl
 ·simp only [if_neg h0]
  obtain ⟨r,hr⟩:=key 0 (decide (a/8>=(l.length:Int))) (fun h=>⟨by omega,by have:=of_decide_eq_false h;omega⟩)
  rw [hr k,hr 0]
  rfl
def belowB (n:Nd) (row:List Int):Int:=if bitP row n.f4=1 then n.f8 else n.f7
theorem below_f (k:Nat) (n:Nd) (row:List Int):ptree_below.f (k+1) n.f0 n.f1 n.f2 n.f3 n.f4 n.f5 n.f6 n.f7 n.f8 n.f9 row=some (belowB n row):=by
 unfold ptree_below.f belowB
 rw [bit_f]
 simp only [Option.bind_some]
 split<;>rfl
inductive PT
 | leaf (n:Nd)
 | fork (n:Nd) (l r:PT)
def PT.h:PT->Nat
 | .leaf _=>0
 | .fork _ l r=>max l.h r.h+1
def IsT (cs:Cs):Int->PT->Prop
 | i,.leaf n=>nodeAt cs i=some n/\n.f0=true
 | i,.fork n l r=>nodeAt cs i=some n/\n.f0=false/\IsT cs n.f7 l/\IsT cs n.f8 r
structure Spot where
 forks:List Nd
 at_:Int
 node:Nd
 same:Bool
def Spot.cons (n:Nd) (s:Spot):Spot:=⟨n :: s.forks,s.at_,s.node,s.same⟩
def findT (row id:List Int):Int->PT->Spot
 | i,.leaf n=>⟨[],i,n,decide (n.f1=id)⟩
 | i,.fork n l r=>if beginsB row n.f5 n.f4 then (if bitP row n.f4=1 then (findT row id n.f8 r).cons n else (findT row id n.f7 l).cons n) else ⟨[],i,n,false⟩
def findO (row id:List Int) (i:Int):Option PT->Spot
 | none=>⟨[],-1,z59,false⟩
 | some t=>findT row id i t
def IsO (cs:Cs) (i:Int):Option PT->Prop
 | none=>nodeAt cs i=none
 | some t=>IsT cs i t
def heightO:Option PT->Nat
 | none=>0
 | some t=>t.h
theorem formR {α:Type} {d:Kd α} {e base:Nat} {ok:Nat->Prop} {w:World} {v:Value} {xs:List α} (h:d.R e w base ok v xs) : ∃A n c,v = .slice A n c:=by
 obtain ⟨A,c,e⟩:=Kd.R_slice h
 exact ⟨A,_,c,e⟩
end Go.Proofs.YtdeneoknjeegbaaGreatDoor.P
end
section
namespace Go.Proofs.YtdeneoknjeegbaaGreatDoor.P
open Go.RowKit YtdeneoknjeegbaaGreatDoorW.PrintWords YtdeneoknjeegbaaGreatDoorW.PrintLast YtdeneoknjeegbaaGreatDoorW.PrintMore
attribute [local go_sem] max2_int min2_int max_two min_two max_three min_three max_four min_four
def annalsref03_Bit.f (l0:List Int) (a1:Int):Option (Int):=if a1<0 then (some (-1)) else (if (wrap64 (Int.tdiv a1 8))>=(l0.length:Int) then (some (-1)) else (if 0<=(wrap64 (Int.tdiv a1 8)) then (if (wrap64 (Int.tdiv a1 8))<(l0.length:Int) then (if 0<=(wrap64 (7-(Int.tmod a1 8))) then (some (Go.bits .and .i64 (wrap64 (shr .u8 (rd l0 (wrap64 (Int.tdiv a1 8))) (wrap64 (7-(Int.tmod a1 8))))) 1)) else (none)) else (none)) else (none)))
set_option maxHeartbeats 8000000 in
set_option maxRecDepth 100000 in
theorem annalsref03_Bit.calls (A0:Option Addr) (c0:Nat) (l0:List Int) (a1:Int) (r:Int) (w:World) (hr0:Kd.C (Kd.int .u8) w A0 l0.length l0) (hc0:l0.length<=c0) (h:annalsref03_Bit.f l0 a1=some r):
 Calls Tryz.prog 35 #[.slice A0 l0.length c0,.int .i64 a1] w fun e w'=>e = .returned (.int .i64 r)/\Drawn0 w w':=by
 have HR0:=z_ hr0
 have HC0:=z_ hc0
 clear hr0 hc0
 have H:(if a1<0 then (some (-1)) else (if (wrap64 (Int.tdiv a1 8))>=(l0.length:Int) then (some (-1)) else (if 0<=(wrap64 (Int.tdiv a1 8)) then (if (wrap64 (Int.tdiv a1 8))<(l0.length:Int) then (if 0<=(wrap64 (7-(Int.tmod a1 8))) then (some (Go.bits .and .i64 (wrap64 (shr .u8 (rd l0 (wrap64 (Int.tdiv a1 8))) (wrap64 (7-(Int.tmod a1 8))))) 1)) else (none)) else (none)) else (none))))=some r:=h
 clear h
 by_cases c3:a1<0
 ·rw [if_pos c3] at H
  have c3b0:decide (a1<0)=true:=decide_eq_true c3
  clear c3
  obtain rfl:=Option.some.inj H
  go_enter Tryz.func35,Tryz.ntmps35
  go_wp2
  go_ret
  exact ⟨by first|rfl|(simp;done)|(simp [*];done),by repeat (first|exact Drawn0.refl _|apply Drawn0.step)⟩
 ·rw [if_neg c3] at H
  have c3b0:decide (a1<0)=false:=decide_eq_false c3
  clear c3
  by_cases c4:(wrap64 (Int.tdiv a1 8))>=(l0.length:Int)
  ·rw [if_pos c4] at H
   have c4b0:decide ((l0.length:Int)<=(wrap64 (Int.tdiv a1 8)))=true:=decide_eq_true c4
   clear c4
   obtain rfl:=Option.some.inj H
   go_enter Tryz.func35,Tryz.ntmps35
   go_wp2
   go_ret
   exact ⟨by first|rfl|(simp;done)|(simp [*];done),by repeat (first|exact Drawn0.refl _|apply Drawn0.step)⟩
  ·rw [if_neg c4] at H
   have c4b0:decide ((l0.length:Int)<=(wrap64 (Int.tdiv a1 8)))=false:=decide_eq_false c4
   clear c4
   obtain ⟨ji5,hji5⟩ : ∃j_:Int,(wrap64 (Int.tdiv a1 8))=j_:=⟨_,rfl⟩
   replace H:(if 0<=(ji5) then (if (ji5)<(l0.length:Int) then (if 0<=(wrap64 (7-(Int.tmod a1 8))) then (some (Go.bits .and .i64 (wrap64 (shr .u8 (rd l0 (ji5)) (wrap64 (7-(Int.tmod a1 8))))) 1)) else (none)) else (none)) else (none))=some r:=by first|(rw [hji5] at H;exact H)|(simp only [hji5] at H ⊢;exact H)
   (try rw [hji5] at c4b0)
   have hji5w:(IntKind.i64.wrap (Int.tdiv a1 8))=ji5:=(i64_w _).trans hji5
   by_cases c6:0<=(ji5)
   ·rw [if_pos c6] at H
    have c6b0:decide (0<=(ji5))=true:=decide_eq_true c6
    clear c6
    by_cases c7:(ji5)<(l0.length:Int)
    ·rw [if_pos c7] at H
     have c7b0:decide ((ji5)<(l0.length:Int))=true:=decide_eq_true c7
     clear c7
     obtain ⟨ji8,hji8⟩ : ∃j_:Int,(wrap64 (7-(Int.tmod a1 8)))=j_:=⟨_,rfl⟩
     replace H:(if 0<=(ji8) then (some (Go.bits .and .i64 (wrap64 (shr .u8 (rd l0 (ji5)) (ji8))) 1)) else (none))=some r:=by first|(rw [hji8] at H;exact H)|(simp only [hji8] at H ⊢;exact H)
     have hji8w:(IntKind.i64.wrap (7-(Int.tmod a1 8)))=ji8:=(i64_w _).trans hji8
     by_cases c9:0<=(ji8)
     ·rw [if_pos c9] at H
      have c9b0:=eq_true c9
      have c9b1:decide (0<=(ji8))=true:=decide_eq_true c9
      clear c9
      obtain ⟨ji10,hji10⟩ : ∃j_:Int,(shr .u8 (rd l0 (ji5)) (ji8))=j_:=⟨_,rfl⟩
      replace H:(some (Go.bits .and .i64 (wrap64 (ji10)) 1))=some r:=by first|(rw [hji10] at H;exact H)|(simp only [hji10] at H ⊢;exact H)
      have hji10_:((rd l0 (ji5))/2^min (ji8).toNat 8)=ji10:=hji10
      have hji10z:(ji8)<=8->((rd l0 (ji5))/2^(ji8).toNat)=ji10:=shr_small hji10
      obtain rfl:=Option.some.inj H
      have p193:0<=((ji5):Int):=of_decide_eq_true (by first|(with_reducible assumption)|assumption)
      have q193:(ji5)<(l0.length:Int):=of_decide_eq_true (by first|(with_reducible assumption)|assumption)
      obtain ⟨ad193,e193,hx193_0⟩:=Kd.at_int HR0.out (ji5) p193 q193
      cases e193
      replace p193:=eq_true p193
      replace q193:=eq_true q193
      go_enter Tryz.func35,Tryz.ntmps35
      go_wp2
      go_ret
      exact ⟨by first|rfl|(simp;done)|(simp only [<-hji5,<-hji8,<-hji10]<;>(first|rfl|simp))|(simp [*];done),by repeat (first|exact Drawn0.refl _|apply Drawn0.step)⟩
     ·rw [if_neg c9] at H
      exact absurd H (by simp)
    ·rw [if_neg c7] at H
     exact absurd H (by simp)
   ·rw [if_neg c6] at H
    exact absurd H (by simp)
def annalsref03_Common.l0:Nat->List Int->List Int->Int->Option (Int)
 | 0,_,_,_=>none
 | k+1,x0,x1,x5=>(annalsref03_Bit.f x0 x5).bind fun t194=>(if t194>=0 then ((annalsref03_Bit.f x0 x5).bind fun t195=>((annalsref03_Bit.f x1 x5).bind fun t196=>(if t195=t196 then (annalsref03_Common.l0 k x0 x1 (wrap64 (x5+1))) else (some x5)))) else (some x5))
def annalsref03_Common.f (k:Nat) (l0:List Int) (l1:List Int):Option (Int):=annalsref03_Common.l0 k l0 l1 0
set_option maxHeartbeats 8000000 in
set_option maxRecDepth 100000 in
theorem annalsref03_Common.calls (k:Nat) (A0:Option Addr) (c0:Nat) (l0:List Int) (A1:Option Addr) (c1:Nat) (l1:List Int) (r:Int) (w:World) (hr0:Kd.C (Kd.int .u8) w A0 l0.length l0) (hc0:l0.length<=c0) (hr1:Kd.C (Kd.int .u8) w A1 l1.length l1) (hc1:l1.length<=c1) (h:annalsref03_Common.f k l0 l1=some r):
 Calls Tryz.prog 34 #[.slice A0 l0.length c0,.slice A1 l1.length c1] w fun e w'=>e = .returned (.int .i64 r)/\Drawn0 w w':=by
 have HR0:=z_ hr0
 have HC0:=z_ hc0
 clear hr0 hc0
 have HR1:=z_ hr1
 have HC1:=z_ hc1
 clear hr1 hc1
 have H:(annalsref03_Common.l0 k l0 l1 0)=some r:=h
 clear h
 have H':=z_ H
 clear H
 go_enter Tryz.func34,Tryz.ntmps34
 go_wp2
 go_loopg [5] k (fun kq v5 w'=>∃(x5_1:Int),v5 = .int .i64 x5_1/\Aside0 (annalsref03_Common.l0 kq l0 l1 x5_1=some r)/\Aside0 (kq<=k)/\Drawn0 w w')
 case atStart=>exact ⟨(0),(by first|rfl|(simp;done)|(simp [*];done)),H',⟨Nat.le_refl _⟩,by repeat (first|exact Drawn0.refl _|apply Drawn0.step)⟩
 case round=>
  clear H'
  try clear c1
  try clear p2
  obtain ⟨x5_1,rfl,HA,HK1,⟨m1,rfl⟩⟩:=hrel
  cases gk with
  | zero=>exact absurd HA.out (by simp [annalsref03_Common.l0])
  | succ k1=>
    have H:=HA.out
    clear HA
    simp only [annalsref03_Common.l0] at H
    replace H:=Option.bind_eq_some_iff.mp H
    obtain ⟨t194,A30,H⟩:=H
    replace H:(if t194>=0 then ((annalsref03_Bit.f l0 x5_1).bind fun t195=>((annalsref03_Bit.f l1 x5_1).bind fun t196=>(if t195=t196 then (annalsref03_Common.l0 k1 l0 l1 (wrap64 (x5_1+1))) else (some x5_1)))) else (some x5_1))=some r:=H
    have A3:=z_ A30
    clear A30
    by_cases c4:t194>=0
    ·rw [if_pos c4] at H
     have c4b0:decide (0<=t194)=true:=decide_eq_true c4
     clear c4
     replace H:=Option.bind_eq_some_iff.mp H
     obtain ⟨t195,A50,H⟩:=H
     replace H:((annalsref03_Bit.f l1 x5_1).bind fun t196=>(if t195=t196 then (annalsref03_Common.l0 k1 l0 l1 (wrap64 (x5_1+1))) else (some x5_1)))=some r:=H
     have A5:=z_ A50
     clear A50
     replace H:=Option.bind_eq_some_iff.mp H
     obtain ⟨t196,A60,H⟩:=H
     replace H:(if t195=t196 then (annalsref03_Common.l0 k1 l0 l1 (wrap64 (x5_1+1))) else (some x5_1))=some r:=H
     have A6:=z_ A60
     clear A60
     by_cases c7:t195=t196
     ·rw [if_pos c7] at H
      have c7b0:(t195==t196)=true:=beq_iff_eq.mpr c7
      have c7b1:(t195 !=t196)=false:=bne_eq_false_iff_eq.mpr c7
      clear c7
      have H':=z_ H
      clear H
      go_wp2_with (first|((with_reducible refine gate_callee (f:=35) rfl ?_);refine goesL_ (some 8) rfl rfl Tryz.func35 (by kernel_rfl) rfl #[.slice A0 l0.length c0,.int .i64 x5_1] rfl (by (try simp only [List.map_toArray,List.map_cons,List.map_nil]);first|done|rfl|(simp only [List.length_drop,List.length_take];rfl)) ?_;(with_reducible refine (annalsref03_Bit.calls _ _ l0 x5_1 t194 _ ?side1 ?side2 A3.out).mono ?_);(case side1=>repeat (first|exact HR0.out|(with_reducible refine Kd.C_alloc ?_ _)|(with_reducible refine Kd.C_drewN ?_ _)|(with_reducible refine Kd.C_drew ?_)));(case side2=>exact HC0.out);rintro e w' ⟨rfl,⟨nd,rfl⟩⟩;refine ⟨_,rfl,?_⟩)|(go_at_call 35;(with_reducible refine (annalsref03_Bit.calls _ _ l0 x5_1 t195 _ ?side1 ?side2 A5.out).mono ?_);(case side1=>repeat (first|exact HR0.out|(with_reducible refine Kd.C_alloc ?_ _)|(with_reducible refine Kd.C_drewN ?_ _)|(with_reducible refine Kd.C_drew ?_)));(case side2=>exact HC0.out);rintro e w' ⟨rfl,⟨nd,rfl⟩⟩)|(go_at_call 35;(with_reducible refine (annalsref03_Bit.calls _ _ l1 x5_1 t196 _ ?side1 ?side2 A6.out).mono ?_);(case side1=>repeat (first|exact HR1.out|(with_reducible refine Kd.C_alloc ?_ _)|(with_reducible refine Kd.C_drewN ?_ _)|(with_reducible refine Kd.C_drew ?_)));(case side2=>exact HC1.out);rintro e w' ⟨rfl,⟨nd,rfl⟩⟩))
      go_roundg k1
      case measure=>have:=HK1.out;omega
      case rel=>exact ⟨(wrap64 (x5_1+1)),(by first|rfl|(simp;done)|(simp [*];done)),H',⟨by have:=HK1.out;omega⟩,by repeat (first|exact Drawn0.refl _|apply Drawn0.step)⟩
     ·rw [if_neg c7] at H
      have c7b0:(t195==t196)=false:=beq_eq_false_iff_ne.mpr c7
      have c7b1:(t195 !=t196)=true:=bne_iff_ne.mpr c7
      obtain rfl:=Option.some.inj H
      go_wp2_with (first|((with_reducible refine gate_callee (f:=35) rfl ?_);refine goesL_ (some 8) rfl rfl Tryz.func35 (by kernel_rfl) rfl #[.slice A0 l0.length c0,.int .i64 x5_1] rfl (by (try simp only [List.map_toArray,List.map_cons,List.map_nil]);first|done|rfl|(simp only [List.length_drop,List.length_take];rfl)) ?_;(with_reducible refine (annalsref03_Bit.calls _ _ l0 x5_1 t194 _ ?side1 ?side2 A3.out).mono ?_);(case side1=>repeat (first|exact HR0.out|(with_reducible refine Kd.C_alloc ?_ _)|(with_reducible refine Kd.C_drewN ?_ _)|(with_reducible refine Kd.C_drew ?_)));(case side2=>exact HC0.out);rintro e w' ⟨rfl,⟨nd,rfl⟩⟩;refine ⟨_,rfl,?_⟩)|(go_at_call 35;(with_reducible refine (annalsref03_Bit.calls _ _ l0 x5_1 t195 _ ?side1 ?side2 A5.out).mono ?_);(case side1=>repeat (first|exact HR0.out|(with_reducible refine Kd.C_alloc ?_ _)|(with_reducible refine Kd.C_drewN ?_ _)|(with_reducible refine Kd.C_drew ?_)));(case side2=>exact HC0.out);rintro e w' ⟨rfl,⟨nd,rfl⟩⟩)|(go_at_call 35;(with_reducible refine (annalsref03_Bit.calls _ _ l1 x5_1 t196 _ ?side1 ?side2 A6.out).mono ?_);(case side1=>repeat (first|exact HR1.out|(with_reducible refine Kd.C_alloc ?_ _)|(with_reducible refine Kd.C_drewN ?_ _)|(with_reducible refine Kd.C_drew ?_)));(case side2=>exact HC1.out);rintro e w' ⟨rfl,⟨nd,rfl⟩⟩))
      go_ret
      exact ⟨by first|rfl|(simp;done)|(simp [*];done),by repeat (first|exact Drawn0.refl _|apply Drawn0.step)⟩
    ·rw [if_neg c4] at H
     have c4b0:decide (0<=t194)=false:=decide_eq_false c4
     clear c4
     obtain rfl:=Option.some.inj H
     go_wp2_with (first|((with_reducible refine gate_callee (f:=35) rfl ?_);refine goesL_ (some 8) rfl rfl Tryz.func35 (by kernel_rfl) rfl #[.slice A0 l0.length c0,.int .i64 x5_1] rfl (by (try simp only [List.map_toArray,List.map_cons,List.map_nil]);first|done|rfl|(simp only [List.length_drop,List.length_take];rfl)) ?_;(with_reducible refine (annalsref03_Bit.calls _ _ l0 x5_1 t194 _ ?side1 ?side2 A3.out).mono ?_);(case side1=>repeat (first|exact HR0.out|(with_reducible refine Kd.C_alloc ?_ _)|(with_reducible refine Kd.C_drewN ?_ _)|(with_reducible refine Kd.C_drew ?_)));(case side2=>exact HC0.out);rintro e w' ⟨rfl,⟨nd,rfl⟩⟩;refine ⟨_,rfl,?_⟩))
     go_ret
     exact ⟨by first|rfl|(simp;done)|(simp [*];done),by repeat (first|exact Drawn0.refl _|apply Drawn0.step)⟩
def annalsref03_Begins.f (k:Nat) (l0:List Int) (l1:List Int) (a2:Int):Option (Bool):=if a2<1 then (some true) else (if (wrap64 (Int.tdiv a2 8))<=(l0.length:Int) then (if a2<=(wrap64 (8*(l0.length:Int))) then (if a2<=(wrap64 (8*(l1.length:Int))) then ((annalsref03_First.f k l0 a2).bind fun t204=>((annalsref03_First.f k l1 a2).bind fun t207=>((annalsref03_Common.f k t204 t207).bind fun t210=>(some (decide (t210>=a2)))))) else (some false)) else (some false)) else (some false))
set_option maxHeartbeats 8000000 in
set_option maxRecDepth 100000 in
theorem annalsref03_Begins.calls (k:Nat) (A0:Option Addr) (c0:Nat) (l0:List Int) (A1:Option Addr) (c1:Nat) (l1:List Int) (a2:Int) (r:Bool) (w:World) (hr0:Kd.C (Kd.int .u8) w A0 l0.length l0) (hc0:l0.length<=c0) (hr1:Kd.C (Kd.int .u8) w A1 l1.length l1) (hc1:l1.length<=c1) (h:annalsref03_Begins.f k l0 l1 a2=some r):
 Calls Tryz.prog 55 #[.slice A0 l0.length c0,.slice A1 l1.length c1,.int .i64 a2] w fun e w'=>e = .returned (.bool r)/\Below w.heap.size w w':=by
 have HR0:=z_ hr0
 have HC0:=z_ hc0
 clear hr0 hc0
 have HR1:=z_ hr1
 have HC1:=z_ hc1
 clear hr1 hc1
 have HB:=z_ (Below.refl w.heap.size w)
 have H:(if a2<1 then (some true) else (if (wrap64 (Int.tdiv a2 8))<=(l0.length:Int) then (if a2<=(wrap64 (8*(l0.length:Int))) then (if a2<=(wrap64 (8*(l1.length:Int))) then ((annalsref03_First.f k l0 a2).bind fun t204=>((annalsref03_First.f k l1 a2).bind fun t207=>((annalsref03_Common.f k t204 t207).bind fun t210=>(some (decide (t210>=a2)))))) else (some false)) else (some false)) else (some false)))=some r:=h
 clear h
 by_cases c4:a2<1
 ·rw [if_pos c4] at H
  have c4b0:decide (a2<1)=true:=decide_eq_true c4
  clear c4
  obtain rfl:=Option.some.inj H
  go_enter Tryz.func55,Tryz.ntmps55
  go_wp2
  go_ret
  exact ⟨by first|rfl|(simp [errW_none,errW_some]<;>rfl)|(simp [*,errW_none,errW_some]<;>rfl),by repeat (first|(with_reducible first|exact HB.out|apply below_alloc|apply pw_below_drewN|apply below_drew1)|exact HB.out)⟩
 ·rw [if_neg c4] at H
  have c4b0:decide (a2<1)=false:=decide_eq_false c4
  clear c4
  by_cases c5:(wrap64 (Int.tdiv a2 8))<=(l0.length:Int)
  ·rw [if_pos c5] at H
   have c5b0:decide ((wrap64 (Int.tdiv a2 8))<=(l0.length:Int))=true:=decide_eq_true c5
   clear c5
   by_cases c6:a2<=(wrap64 (8*(l0.length:Int)))
   ·rw [if_pos c6] at H
    have c6b0:decide (a2<=(wrap64 (8*(l0.length:Int))))=true:=decide_eq_true c6
    clear c6
    by_cases c7:a2<=(wrap64 (8*(l1.length:Int)))
    ·rw [if_pos c7] at H
     have c7b0:decide (a2<=(wrap64 (8*(l1.length:Int))))=true:=decide_eq_true c7
     clear c7
     replace H:=Option.bind_eq_some_iff.mp H
     obtain ⟨t204,A80,H⟩:=H
     replace H:((annalsref03_First.f k l1 a2).bind fun t207=>((annalsref03_Common.f k t204 t207).bind fun t210=>(some (decide (t210>=a2)))))=some r:=H
     have A8:=z_ A80
     clear A80
     replace H:=Option.bind_eq_some_iff.mp H
     obtain ⟨t207,A90,H⟩:=H
     replace H:((annalsref03_Common.f k t204 t207).bind fun t210=>(some (decide (t210>=a2))))=some r:=H
     have A9:=z_ A90
     clear A90
     replace H:=Option.bind_eq_some_iff.mp H
     obtain ⟨t210,A100,H⟩:=H
     replace H:(some (decide (t210>=a2)))=some r:=H
     have A10:=z_ A100
     clear A100
     obtain rfl:=Option.some.inj H
     go_enter Tryz.func55,Tryz.ntmps55
     go_wp2_with (first|(go_at_call 66;(with_reducible refine (annalsref03_First.calls k _ _ l0 a2 t204 _ ?side1 ?side2 A8.out).mono ?_);(case side1=>repeat (first|exact HR0.out|(with_reducible refine Kd.C_alloc ?_ _)|(with_reducible refine Kd.C_drewN ?_ _)|(with_reducible refine Kd.C_drew ?_)));(case side2=>exact HC0.out);rintro e w11 ⟨v205,rfl,ho0,hb⟩;have n0_:=z_ (Kd.R_lower ho0 (below_size (by repeat (first|(with_reducible first|exact HB.out|apply below_alloc|apply pw_below_drewN|apply below_drew1)|exact HB.out))));have n1_:=z_ (below_step (by repeat (first|(with_reducible first|exact HB.out|apply below_alloc|apply pw_below_drewN|apply below_drew1)|exact HB.out)) hb);clear HB;have HO206:=n0_;have HB:=n1_;clear n0_ n1_;(try clear hb);(try clear hb2);(try clear hk);(try clear hi);(try clear ho0))|(go_at_call 66;(with_reducible refine (annalsref03_First.calls k _ _ l1 a2 t207 _ ?side1 ?side2 A9.out).mono ?_);(case side1=>repeat (first|exact (Kd.C_below HR1.out HB.out)|(with_reducible refine Kd.C_alloc ?_ _)|(with_reducible refine Kd.C_drewN ?_ _)|(with_reducible refine Kd.C_drew ?_)));(case side2=>exact HC1.out);rintro e w12 ⟨v208,rfl,ho0,hb⟩;have n0_:=z_ (Kd.R_elder' (by (with_reducible repeat (first|apply Kd.R_alloc|apply Kd.R_drewN|apply Kd.R_drew));exact HO206.out) (Kd.R_base ho0) hb);have n1_:=z_ (Kd.R_lower (Kd.R_new' ho0 (Kd.R_lt (by (with_reducible repeat (first|apply Kd.R_alloc|apply Kd.R_drewN|apply Kd.R_drew));exact HO206.out))) (below_size (by repeat (first|(with_reducible first|exact HB.out|apply below_alloc|apply pw_below_drewN|apply below_drew1)|exact HB.out))));have n2_:=z_ (below_step (by repeat (first|(with_reducible first|exact HB.out|apply below_alloc|apply pw_below_drewN|apply below_drew1)|exact HB.out)) hb);clear HO206;clear HB;have HO206:=n0_;have HO209:=n1_;have HB:=n2_;clear n0_ n1_ n2_;(try clear hb);(try clear hb2);(try clear hk);(try clear hi);(try clear ho0);obtain ⟨Ao13,co13,eo13⟩:=Kd.R_slice HO206.out;subst eo13;obtain ⟨Ao14,co14,eo14⟩:=Kd.R_slice HO209.out;subst eo14)|(go_at_call 34;(with_reducible refine (annalsref03_Common.calls k _ _ t204 _ _ t207 t210 _ ?side1 ?side2 ?side3 ?side4 A10.out).mono ?_);(case side1=>repeat (first|exact (Kd.R_reads' HO206.out).2.2|(with_reducible refine Kd.C_alloc ?_ _)|(with_reducible refine Kd.C_drewN ?_ _)|(with_reducible refine Kd.C_drew ?_)));(case side2=>exact (Kd.R_reads' HO206.out).2.1);(case side3=>repeat (first|exact (Kd.R_reads' HO209.out).2.2|(with_reducible refine Kd.C_alloc ?_ _)|(with_reducible refine Kd.C_drewN ?_ _)|(with_reducible refine Kd.C_drew ?_)));(case side4=>exact (Kd.R_reads' HO209.out).2.1);rintro e w' ⟨rfl,⟨nd,rfl⟩⟩))
     go_ret
     exact ⟨by first|rfl|(simp [errW_none,errW_some]<;>rfl)|(simp [*,errW_none,errW_some]<;>rfl),by repeat (first|(with_reducible first|exact HB.out|apply below_alloc|apply pw_below_drewN|apply below_drew1)|exact HB.out)⟩
    ·rw [if_neg c7] at H
     have c7b0:decide (a2<=(wrap64 (8*(l1.length:Int))))=false:=decide_eq_false c7
     clear c7
     obtain rfl:=Option.some.inj H
     go_enter Tryz.func55,Tryz.ntmps55
     go_wp2
     go_ret
     exact ⟨by first|rfl|(simp [errW_none,errW_some]<;>rfl)|(simp [*,errW_none,errW_some]<;>rfl),by repeat (first|(with_reducible first|exact HB.out|apply below_alloc|apply pw_below_drewN|apply below_drew1)|exact HB.out)⟩
   ·rw [if_neg c6] at H
    have c6b0:decide (a2<=(wrap64 (8*(l0.length:Int))))=false:=decide_eq_false c6
    clear c6
    obtain rfl:=Option.some.inj H
    go_enter Tryz.func55,Tryz.ntmps55
    go_wp2
    go_ret
    exact ⟨by first|rfl|(simp [errW_none,errW_some]<;>rfl)|(simp [*,errW_none,errW_some]<;>rfl),by repeat (first|(with_reducible first|exact HB.out|apply below_alloc|apply pw_below_drewN|apply below_drew1)|exact HB.out)⟩
  ·rw [if_neg c5] at H
   have c5b0:decide ((wrap64 (Int.tdiv a2 8))<=(l0.length:Int))=false:=decide_eq_false c5
   clear c5
   obtain rfl:=Option.some.inj H
   go_enter Tryz.func55,Tryz.ntmps55
   go_wp2
   go_ret
   exact ⟨by first|rfl|(simp [errW_none,errW_some]<;>rfl)|(simp [*,errW_none,errW_some]<;>rfl),by repeat (first|(with_reducible first|exact HB.out|apply below_alloc|apply pw_below_drewN|apply below_drew1)|exact HB.out)⟩
end Go.Proofs.YtdeneoknjeegbaaGreatDoor.P
end
section
namespace Go.Proofs.YtdeneoknjeegbaaGreatDoor.P
open Go.RowKit YtdeneoknjeegbaaGreatDoor.Pure YtdeneoknjeegbaaGreatDoorW.PrintWords YtdeneoknjeegbaaGreatDoorW.PrintLast YtdeneoknjeegbaaGreatDoorW.PrintMore
def bitX (x:Int) (j:Nat):Int:=x/2^(7-j)%2
def bitN:List Int->Nat->Int
 | [],_=> -1
 | x :: xs,i=>if i<8 then bitX x i else bitN xs (i-8)
theorem bitX_range (x:Int) (j:Nat):0<=bitX x j/\bitX x j<=1:=by unfold bitX;omega
theorem bitN_at : ∀(l:List Int) (i:Nat),bitN l i=if i/8<l.length then bitX (l.getD (i/8) 0) (i%8) else -1
 | [],i=>by simp [bitN]
 | x :: xs,i=>by
   unfold bitN
   by_cases h:i<8
   ·rw [if_pos h,if_pos (by simp;omega),show i/8=0 by omega,show i%8=i by omega]
    rfl
   ·rw [if_neg h,bitN_at xs (i-8)]
    have h1:i/8=(i-8)/8+1:=by omega
    have h2:(i-8)%8=i%8:=by omega
    rw [h1,h2,List.length_cons]
    by_cases h3:(i-8)/8<xs.length
    ·rw [if_pos h3,if_pos (by omega)]
     rfl
    ·rw [if_neg h3,if_neg (by omega)]
theorem top_bit : ∀z:Fin 256,z.val≠0->Lib.bitLen z.val<=8/\0<Lib.bitLen z.val/\(∀j:Fin 8,j.val<8-Lib.bitLen z.val->z.val.testBit (7-j.val)=false)/\z.val.testBit (Lib.bitLen z.val-1)=true:=by decide +kernel
theorem bitX_test (x:Nat) (j:Nat):bitX (x:Int) j=((x.testBit (7-j)).toNat:Int):=by
 unfold bitX
 rw [Nat.toNat_testBit]
 norm_cast
theorem xor_nat (x y:Nat) (hx:x<256) (hy:y<256):(Go.bits .xor .u8 (x:Int) (y:Int)).toNat=x ^^^ y:=by
 rw [u8_xor_nat x y hx hy]
 exact Int.toNat_natCast _
theorem byte_part (x y:Int) (hx:0<=x/\x<=255) (hy:0<=y/\y<=255) (h:x≠y) : ∃d:Nat,d<8/\(8-(Lib.bitLen (Go.bits .xor .u8 x y).toNat:Int))=(d:Int)/\(∀j,j<d->bitX x j=bitX y j)/\bitX x d≠bitX y d:=by
 obtain ⟨a,rfl⟩:=Int.eq_ofNat_of_zero_le hx.1
 obtain ⟨b,rfl⟩:=Int.eq_ofNat_of_zero_le hy.1
 rw [xor_nat a b (by omega) (by omega)]
 have hz:a ^^^ b<256:=Nat.xor_lt_two_pow (n:=8) (by omega) (by omega)
 have hne:a ^^^ b≠0:=fun he=>h (by
  have:a=b:=Nat.eq_of_testBit_eq (fun i=>by
   have h0:=congrArg (fun q:Nat=>q.testBit i) he
   simp only [Nat.testBit_xor,Nat.zero_testBit] at h0
   cases ha:a.testBit i<;>cases hb:b.testBit i<;>simp_all)
  rw [this])
 obtain ⟨h1,h2,h3,h4⟩:=top_bit ⟨a ^^^ b,hz⟩ hne
 simp only at h1 h2 h3 h4
 refine ⟨8-Lib.bitLen (a ^^^ b),by omega,by omega,fun j hj=>?_,?_⟩
 ·have:=h3 ⟨j,by omega⟩ hj
  simp only [Nat.testBit_xor] at this
  rw [bitX_test,bitX_test]
  cases ha:a.testBit (7-j)<;>cases hb:b.testBit (7-j)<;>simp_all
 ·rw [show Lib.bitLen (a ^^^ b)-1=7-(8-Lib.bitLen (a ^^^ b)) by omega] at h4
  rw [bitX_test,bitX_test]
  simp only [Nat.testBit_xor] at h4
  cases ha:a.testBit (7-(8-Lib.bitLen (a ^^^ b)))<;>cases hb:b.testBit (7-(8-Lib.bitLen (a ^^^ b)))<;>simp_all
theorem bcommon_spec : ∀(a b:List Int),BytesOk a->BytesOk b->∃m:Nat,bcommon a b=(m:Int)/\m<=8*min a.length b.length/\(∀i,i<m->bitN a i=bitN b i/\0<=bitN a i)/\(bitN a m<0\/bitN a m≠bitN b m)
 | [],b,_,_=>⟨0,rfl,by simp,fun i h=>absurd h (by omega),.inl (by simp [bitN])⟩
 | x :: xs,[],_,_=>⟨0,rfl,by simp,fun i h=>absurd h (by omega),.inr (by
  have:=(bitX_range x 0).1
  simp only [bitN]
  rw [if_pos (by omega)]
  omega)⟩
 | x :: xs,y :: ys,ha,hb=>by
   have hx:=ha x (by simp)
   have hy:=hb y (by simp)
   by_cases he:x=y
   ·subst he
    obtain ⟨m,h1,h2,h3,h4⟩:=bcommon_spec xs ys (fun z hz=>ha z (List.mem_cons_of_mem _ hz)) (fun z hz=>hb z (List.mem_cons_of_mem _ hz))
    refine ⟨8+m,?_,?_,fun i hi=>?_,?_⟩
    ·unfold bcommon
     rw [if_pos rfl,h1]
     omega
    ·simp only [List.length_cons]
     omega
    ·unfold bitN
     by_cases h8:i<8
     ·rw [if_pos h8,if_pos h8]
      exact ⟨rfl,(bitX_range _ _).1⟩
     ·rw [if_neg h8,if_neg h8]
      exact h3 (i-8) (by omega)
    ·unfold bitN
     rw [if_neg (by omega),if_neg (by omega),show 8+m-8=m by omega]
     exact h4
   ·obtain ⟨d,hd,h1,h2,h3⟩:=byte_part x y hx hy he
    refine ⟨d,?_,?_,fun i hi=>?_,?_⟩
    ·unfold bcommon
     rw [if_neg he,h1]
    ·simp only [List.length_cons]
     omega
    ·unfold bitN
     rw [if_pos (by omega),if_pos (by omega)]
     exact ⟨h2 i hi,(bitX_range _ _).1⟩
    ·right
     unfold bitN
     rw [if_pos hd,if_pos hd]
     exact h3
theorem common_ge {a b:List Int} (ha:BytesOk a) (hb:BytesOk b) (n:Nat):(n:Int)<=bcommon a b↔∀i,i<n->bitN a i=bitN b i/\0<=bitN a i:=by
 obtain ⟨m,h1,h2,h3,h4⟩:=bcommon_spec a b ha hb
 rw [h1]
 constructor
 ·intro h i hi
  exact h3 i (by omega)
 ·intro h
  rcases Nat.lt_or_ge m n with hlt|hge
  ·have:=h m hlt
   rcases h4 with h4|h4
   ·omega
   ·exact absurd this.1 h4
  ·omega
theorem and1_byte : ∀x:Fin 256,Go.bits .and .i64 (x.val:Int) 1=(x.val:Int)%2:=by decide +kernel
theorem shr_byte : ∀(x:Fin 256) (s:Fin 8),shr .u8 (x.val:Int) (s.val:Int)=(x.val:Int)/2^s.val:=by decide +kernel
theorem andP_byte : ∀(x:Fin 256) (j:Fin 8),(if Go.bits .and .u8 (x.val:Int) (shr .u8 128 (j.val:Int))=0 then (0:Int) else 1)=(x.val:Int)/2^(7-j.val)%2:=by decide +kernel
theorem rd_nat (l:List Int) (i:Nat):rd l (i:Int)=l.getD i 0:=by unfold rd;rw [Int.toNat_natCast]
theorem bitN_eq (l:List Int) (i:Nat) (h:i/8<l.length):bitN l i=l.getD (i/8) 0/2^(7-i%8)%2:=by
 rw [bitN_at,if_pos h]
 rfl
theorem bitN_off (l:List Int) (i:Nat) (h:l.length<=i/8):bitN l i = -1:=by
 rw [bitN_at,if_neg (by omega)]
theorem bitP_eq (l:List Int) (hb:BytesOk l) (i:Nat):bitP l (i:Int)=bitN l i:=by
 unfold bitP bits_Bit.f
 rw [if_neg (by omega)]
 have hd:(i:Int)/8=((i/8:Nat):Int):=by omega
 rw [hd]
 by_cases h:l.length<=i/8
 ·rw [decide_eq_true (by omega),bitN_off l i h]
  rfl
 ·rw [decide_eq_false (by omega),bitN_eq l i (by omega)]
  simp only [bits_Bit.j0]
  rw [if_neg (by simp),hd,if_pos (by omega),if_pos (by omega),and7,if_pos (by omega),rd_nat]
  have hx:=BytesOk.get hb (i/8)
  have h8:=andP_byte ⟨(l.getD (i/8) 0).toNat,by omega⟩ ⟨i%8,by omega⟩
  simp only [Int.toNat_of_nonneg hx.1] at h8
  have hm:(i:Int)%8=((i%8:Nat):Int):=by omega
  rw [hm]
  rw [<-h8]
  split<;>rfl
theorem rbit_f (l:List Int) (hb:BytesOk l) (i:Nat) (hi:i<=1000000000):annalsref03_Bit.f l (i:Int)=some (bitN l i):=by
 unfold annalsref03_Bit.f
 have hd:wrap64 (Int.tdiv (i:Int) 8)=((i/8:Nat):Int):=by
  rw [Int.tdiv_eq_ediv_of_nonneg (by omega),wrap64_id _ (by omega)]
  omega
 have hm:wrap64 (7-Int.tmod (i:Int) 8)=((7-i%8:Nat):Int):=by
  rw [Int.tmod_eq_emod_of_nonneg (by omega),wrap64_id _ (by omega)]
  omega
 rw [hd,hm,if_neg (by omega)]
 by_cases h:l.length<=i/8
 ·rw [if_pos (by omega),bitN_off l i h]
 ·rw [if_neg (by omega),if_pos (by omega),if_pos (by omega),if_pos (by omega),bitN_eq l i (by omega),rd_nat]
  have hx:=BytesOk.get hb (i/8)
  have h1:=shr_byte ⟨(l.getD (i/8) 0).toNat,by omega⟩ ⟨7-i%8,by omega⟩
  simp only [Int.toNat_of_nonneg hx.1] at h1
  rw [h1]
  obtain ⟨z,hz⟩ : ∃z,z=l.getD (i/8) 0/2^(7-i%8):=⟨_,rfl⟩
  rw [<-hz]
  have hz0:0<=z/\z<=255:=by
   have hp:(0:Int)<2^(7-i%8):=Int.pow_pos (by omega)
   rw [hz]
   refine ⟨Int.ediv_nonneg hx.1 (Int.le_of_lt hp),Int.le_trans (Int.ediv_le_self _ hx.1) hx.2⟩
  rw [wrap64_id _ (by omega)]
  have h2:=and1_byte ⟨z.toNat,by omega⟩
  simp only [Int.toNat_of_nonneg hz0.1] at h2
  rw [h2]
theorem rcommon_l (a b:List Int) (ha:BytesOk a) (hb:BytesOk b) (m:Nat) (hm:m<=1000000) (h3 : ∀i,i<m->bitN a i=bitN b i/\0<=bitN a i) (h4:bitN a m<0\/bitN a m≠bitN b m) : ∀(d i k:Nat),i+d=m->d<k->annalsref03_Common.l0 k a b (i:Int)=some (m:Int)
 | 0,i,k,hi,hk=>by
   obtain ⟨k,rfl⟩ : ∃j,k=j+1:=⟨k-1,by omega⟩
   obtain rfl:i=m:=by omega
   simp only [annalsref03_Common.l0]
   rw [rbit_f a ha i (by omega),rbit_f b hb i (by omega)]
   simp only [Option.bind_some]
   rcases h4 with h4|h4
   ·rw [if_neg (by omega)]
   ·by_cases h0:bitN a i>=0
    ·rw [if_pos h0,if_neg h4]
    ·rw [if_neg h0]
 | d+1,i,k,hi,hk=>by
   obtain ⟨k,rfl⟩ : ∃j,k=j+1:=⟨k-1,by omega⟩
   have h:=h3 i (by omega)
   simp only [annalsref03_Common.l0]
   rw [rbit_f a ha i (by omega),rbit_f b hb i (by omega)]
   simp only [Option.bind_some]
   rw [if_pos h.2,if_pos h.1,wrap64_id _ (by omega),show (i:Int)+1=((i+1:Nat):Int) by omega]
   exact rcommon_l a b ha hb m hm h3 h4 d (i+1) k (by omega) (by omega)
theorem rcommon_f (a b:List Int) (ha:BytesOk a) (hb:BytesOk b) (hl:a.length<=100000) (k:Nat) (hk:8*a.length<k):annalsref03_Common.f k a b=some (bcommon a b):=by
 obtain ⟨m,h1,h2,h3,h4⟩:=bcommon_spec a b ha hb
 rw [h1]
 exact rcommon_l a b ha hb m (by omega) h3 h4 m 0 k (by omega) (by omega)
theorem cut_bit : ∀(o:Fin 8) (x:Fin 256) (j:Fin 8),j.val<o.val->Go.bits .and .u8 (x.val:Int) (255*2^(8-o.val)%256)/2^(7-j.val)%2=(x.val:Int)/2^(7-j.val)%2:=by decide +kernel
theorem getD_take (l:List Int) (m j:Nat) (h:j<m):(l.take m).getD j 0=l.getD j 0:=by
 rw [List.getD_eq_getElem?_getD,List.getD_eq_getElem?_getD,List.getElem?_take,if_pos h]
theorem bitN_first (l:List Int) (hb:BytesOk l) (n:Nat) (h1:1<=n) (hn:n<=8*l.length) (i:Nat) (hi:i<n):bitN (firstB l (n:Int)) i=bitN l i:=by
 unfold firstB
 by_cases h8:8*(l.length:Int)<=(n:Int)
 ·rw [if_pos h8]
 rw [if_neg h8,if_neg (by omega),Int.toNat_natCast]
 obtain ⟨m,hm⟩ : ∃m,m=bitBytes n:=⟨_,rfl⟩
 have hm':m=(n-1)/8+1:=hm
 have htl:(l.take m).length=m:=by rw [List.length_take];omega
 have hil:i/8<l.length:=by omega
 unfold firstBits
 rw [<-hm]
 by_cases h0:n%8=0
 ·rw [if_pos h0,bitN_eq _ i (by rw [htl];omega),bitN_eq l i hil,getD_take l m _ (by omega)]
 ·rw [if_neg h0,bitN_eq _ i (by rw [List.length_set,htl];omega),bitN_eq l i hil]
  rw [List.getD_eq_getElem?_getD,List.getElem?_set]
  by_cases hj:m-1=i/8
  ·rw [if_pos hj,if_pos (by rw [htl];omega)]
   simp only [Option.getD_some]
   rw [hj,getD_take l m _ (by omega)]
   have hx:=BytesOk.get hb (i/8)
   have hc:=cut_bit ⟨n%8,by omega⟩ ⟨(l.getD (i/8) 0).toNat,by omega⟩ ⟨i%8,by omega⟩ (by simp only;omega)
   simp only [Int.toNat_of_nonneg hx.1] at hc
   unfold cutByte
   rw [show (8-((n%8:Nat):Int)).toNat=8-n%8 by omega]
   exact hc
  ·rw [if_neg hj,<-List.getD_eq_getElem?_getD,getD_take l m _ (by omega)]
theorem begins_first (l p:List Int) (hl:BytesOk l) (hp:BytesOk p) (n:Nat) (h1:1<=n) (h2:n<=8*l.length) (h3:n<=8*p.length):((n:Int)<=bcommon (firstB l (n:Int)) (firstB p (n:Int)))↔((n:Int)<=bcommon l p):=by
 rw [common_ge (firstB_ok l hl _) (firstB_ok p hp _),common_ge hl hp]
 constructor
 ·intro h i hi
  have:=h i hi
  rwa [bitN_first l hl n h1 h2 i hi,bitN_first p hp n h1 h3 i hi] at this
 ·intro h i hi
  rw [bitN_first l hl n h1 h2 i hi,bitN_first p hp n h1 h3 i hi]
  exact h i hi
theorem rbegins_f (l p:List Int) (hl:BytesOk l) (hp:BytesOk p) (n:Int) (h1:l.length<=100000) (h2:p.length<=100000) (hn:n<=9223372036854775807) (k:Nat) (hk:1000000<=k):annalsref03_Begins.f k l p n=some (beginsB l p n):=by
 unfold annalsref03_Begins.f beginsB
 by_cases h0:n<1
 ·rw [if_pos h0,if_pos h0]
 rw [if_neg h0,if_neg h0,wrap64_id (8*(l.length:Int)) (by omega),wrap64_id (8*(p.length:Int)) (by omega)]
 have hd:wrap64 (Int.tdiv n 8)=n/8:=by
  rw [Int.tdiv_eq_ediv_of_nonneg (by omega),wrap64_id _ (by omega)]
 rw [hd]
 by_cases ha:n<=8*(l.length:Int)
 ·rw [if_pos (by omega),if_pos ha]
  by_cases hb:n<=8*(p.length:Int)
  ·obtain ⟨j,rfl⟩:=Int.eq_ofNat_of_zero_le (show 0<=n by omega)
   rw [if_pos hb,if_pos (by omega),rfirst_f l hl _ (by omega) (by omega) k (by omega),rfirst_f p hp _ (by omega) (by omega) k (by omega)]
   simp only [Option.bind_some]
   have hfl:=firstB_length l (j:Int)
   rw [rcommon_f _ _ (firstB_ok l hl _) (firstB_ok p hp _) (by omega) k (by omega)]
   simp only [Option.bind_some]
   have:=begins_first l p hl hp j (by omega) (by omega) (by omega)
   by_cases hc:(j:Int)<=bcommon l p
   ·rw [decide_eq_true (this.2 hc),decide_eq_true hc]
   ·rw [decide_eq_false (fun hh=>hc (this.1 hh)),decide_eq_false hc]
  ·rw [if_neg hb,if_neg (by omega)]
 ·have hmn : ¬n<=8*((min l.length p.length:Nat):Int):=by omega
  rw [if_neg hmn,if_neg ha]
  split<;>rfl
theorem rbitP_f (l:List Int) (hb:BytesOk l) (a:Int) (ha:a<=1000000000):annalsref03_Bit.f l a=some (bitP l a):=by
 by_cases h:a<0
 ·unfold annalsref03_Bit.f bitP bits_Bit.f
  rw [if_pos h,if_pos h]
  rfl
 ·obtain ⟨i,rfl⟩:=Int.eq_ofNat_of_zero_le (show 0<=a by omega)
  rw [rbit_f l hb i (by omega),bitP_eq l hb i]
def wayT (row:List Int):Int->PT->List Int×Int
 | i,.leaf n=>([],i)
 | i,.fork n l r=>if beginsB row n.f5 n.f4 then (if bitP row n.f4=1 then (i :: (wayT row n.f8 r).1,(wayT row n.f8 r).2) else (i :: (wayT row n.f7 l).1,(wayT row n.f7 l).2)) else ([],i)
def wayO (row:List Int) (i:Int):Option PT->List Int×Int
 | none=>([],-1)
 | some t=>wayT row i t
theorem way_meas {k n:Nat} (h:k<n) (hw:wrap64 ((k:Int)+1)=((k+1:Nat):Int)):n-(intOf (.int .i64 (wrap64 ((k:Int)+1)))).toNat<n-(intOf (.int .i64 (k:Int))).toNat:=cut_meas h hw
set_option maxHeartbeats 8000000 in
set_option maxRecDepth 100000 in
theorem way_calls {w:World} {base q:Nat} {size most:Int} {vl:Value} {X:Nat->Prop} {cs:Cs} (h:RefM w base q size most vl X cs) (hcs:CsOk cs) (root:Int) (A:Option Addr) (c:Nat) (row:List Int) (hr:Kd.C (Kd.int .u8) w A row.length row) (hc:row.length<=c) (ho:BytesOk row) (hrl:row.length<=256) (hos : ∀n,some n∈cs->BytesOk n.f5) (t0:Option PT) (ht0:IsO cs root t0) (hh:(wayO row root t0).1.length<=8*row.length) (hf4 : ∀n,some n∈cs->n.f4<=9223372036854775807):
 Calls Tryz.prog 23 #[.pointer (some ⟨q,0,none⟩),.int .i64 root,.slice A row.length c] w fun e w'=>∃(Af:Option Addr) (nf cf:Nat),e = .returned (.tuple #[.slice Af nf cf,.int .i64 (wayO row root t0).2])/\Kd.R (Kd.int .i64) 3 w' w.heap.size (fun _=>True) (.slice Af nf cf) (wayO row root t0).1/\Below w.heap.size w w':=by
 have HA:=z_ h
 have HCS:=z_ hcs
 have HRW:=z_ (show Kd.C (Kd.int .u8) w A row.length row/\row.length<=c/\BytesOk row/\row.length<=256 from ⟨hr,hc,ho,hrl⟩)
 have HOS:=z_ hos
 have HF4:=z_ hf4
 obtain ⟨nb,hnb⟩ : ∃nb,nb=8*row.length+1:=⟨_,rfl⟩
 have hw1:wrap64 (8*(row.length:Int))=8*(row.length:Int):=wrap64_id _ (by omega)
 have hw2:wrap64 (8*(row.length:Int)+1)=(nb:Int):=by rw [wrap64_id _ (by omega)];omega
 have HNB:=z_ (show nb<=2049/\(wayO row root t0).1.length<nb/\row.length<=256 from ⟨by omega,by omega,hrl⟩)
 have HT0:=z_ ht0
 clear h hcs hr hc ho hrl hos ht0 hh hnb hf4
 go_enter Tryz.func23,Tryz.ntmps23
 go_wp2_with fail
 have HW2:=z_ hw2
 clear hw1 hw2
 go_loopw [8,9,17] (fun v8 v9 v17 wr=>∃(k:Nat) (i:Int) (t:Option PT) (Af:Option Addr) (nf cf:Nat) (fs:List Int),v8 = .slice Af nf cf/\v9 = .int .i64 i/\v17 = .int .i64 (k:Int)/\Aside0 (k=fs.length/\IsO cs i t/\k+(wayO row i t).1.length<=(wayO row root t0).1.length/\wayO row root t0=(fs++(wayO row i t).1,(wayO row i t).2))/\Aside0 (Kd.R (Kd.int .i64) 3 wr w.heap.size (fun _=>True) (.slice Af nf cf) fs)/\Aside0 (Below w.heap.size w wr)) (fun _ _ v17 _=>nb-(intOf v17).toNat)
 case atStart=>exact ⟨0,root,t0,none,0,0,[],rfl,rfl,rfl,⟨rfl,HT0.out,by omega,rfl⟩,⟨Kd.R_nil _ _ _ _ _⟩,⟨Below.refl _ _⟩⟩
 case round=>
  obtain ⟨k,i,t,Af,nf,cf,fs,rfl,rfl,rfl,HT,HR,HB⟩:=hrel
  have HK:=z_ (show k<nb from by have:=HT.out.2.2.1;have:=HNB.out.2.1;omega)
  have hd:decide ((k:Int)<(nb:Int))=true:=decide_eq_true (by have:=HK.out;omega)
  have hd3:decide ((k:Int)<wrap64 (8*(row.length:Int)+1))=true:=by rw [HW2.out];exact hd
  clear hd
  go_wp2_with fail
  refine (rnode_calls (HA.out.below HB.out) i (fun n hn=>(HCS.out.at i n hn).1)).mono ?_
  rintro e w4 ⟨hN,hb⟩
  have HB4:=z_ hb
  clear hb
  cases t with
  | none=>
    rw [show nodeAt cs i=none from HT.out.2.1] at hN
    obtain rfl:e = .returned (.tuple #[.agg zeroR.toArray,.bool false]):=hN
    unfold zeroR
    go_wp2_with fail
    go_ret2
    have he:=HT.out.2.2.2
    refine ⟨Af,nf,cf,?_,?_,below_alloc (below_step HB.out HB4.out) _⟩
    ·rw [he]
     rfl
    ·rw [he]
     show Kd.R _ _ _ _ _ _ (fs++[])
     rw [List.append_nil]
     exact Kd.R_alloc (Kd.R_below HR.out HB4.out) _
  | some t=>
    have hat : ∃n,nodeAt cs i=some n:=by
     have:=HT.out.2.1
     cases t with
     | leaf n=>exact ⟨n,this.1⟩
     | fork n l r=>exact ⟨n,this.1⟩
    obtain ⟨n,hn⟩:=hat
    have HNA:=z_ hn
    rw [hn] at hN
    obtain ⟨D1,D2,D5,D9,d1,d2,d5,d9,rfl,x1,x2,x5,x9⟩:=hN
    have HV5:=z_ x5
    clear x1 x2 x5 x9 hn
    obtain ⟨b0,hb0⟩ : ∃b0,n.f0=b0:=⟨_,rfl⟩
    rw [hb0]
    have HB0:=z_ hb0
    clear hb0
    obtain ⟨w5,hw5⟩ : ∃w5,w5=w4.alloc (.cells #[.bool b0,.slice D1 n.f1.length d1,.slice D2 n.f2.length d2,.int .i64 n.f3,.int .i64 n.f4,.slice D5 n.f5.length d5,.int .i64 n.f6,.int .i64 n.f7,.int .i64 n.f8,.slice D9 n.f9.length d9] 59):=⟨_,rfl⟩
    have HB5:=z_ (show Below w4.heap.size w4 w5 from by rw [hw5];exact below_alloc (Below.refl _ _) _)
    have HN5:=z_ (show NdB w5 w4.heap.size [.bool b0,.slice D1 n.f1.length d1,.slice D2 n.f2.length d2,.int .i64 n.f3,.int .i64 n.f4,.slice D5 n.f5.length d5,.int .i64 n.f6,.int .i64 n.f7,.int .i64 n.f8,.slice D9 n.f9.length d9] from by rw [hw5];exact heap_alloc_new w4 _)
    obtain ⟨m0,m1,m2,m3,m4,m5,m6,m7,m8,m9⟩:=(show NdB (w4.alloc (.cells #[.bool b0,.slice D1 n.f1.length d1,.slice D2 n.f2.length d2,.int .i64 n.f3,.int .i64 n.f4,.slice D5 n.f5.length d5,.int .i64 n.f6,.int .i64 n.f7,.int .i64 n.f8,.slice D9 n.f9.length d9] 59)) w4.heap.size [.bool b0,.slice D1 n.f1.length d1,.slice D2 n.f2.length d2,.int .i64 n.f3,.int .i64 n.f4,.slice D5 n.f5.length d5,.int .i64 n.f6,.int .i64 n.f7,.int .i64 n.f8,.slice D9 n.f9.length d9] from heap_alloc_new w4 _).cells
    have HR5:=z_ (Kd.R_below (Kd.R_below HR.out HB4.out) HB5.out)
    have HBL5:=z_ (below_step (below_step HB.out HB4.out) HB5.out)
    cases b0 with
    | true=>
      go_wp2_with fail
      rw [<-hw5]
      go_ret2
      have he:=HT.out.2.2.2
      have hw:wayO row i (some t)=([],i):=by
       have hT:=HT.out.2.1
       have hna:=HNA.out
       have hb0:=HB0.out
       cases t with
       | leaf m=>rfl
       | fork m l r=>
         obtain rfl:m=n:=Option.some.inj (hT.1.symm.trans hna)
         rw [hT.2.1] at hb0
         cases hb0
      rw [hw] at he
      refine ⟨Af,nf,cf,?_,?_,HBL5.out⟩
      ·rw [he]
       rfl
      ·rw [he]
       show Kd.R _ _ _ _ _ _ (fs++[])
       rw [List.append_nil]
       exact HR5.out
    | false=>
      go_wp2_with fail
      rw [<-hw5]
      clear m0 m1 m2 m3 m4 m5 m6 m7 m8 m9 hw5
      obtain ⟨g9,hg9⟩ : ∃g9,g9=w4.heap.size:=⟨_,rfl⟩
      rw [<-hg9] at HN5
      rw [<-hg9]
      clear hg9
      obtain ⟨bg,hbg⟩ : ∃bg,bg=beginsB row n.f5 n.f4:=⟨_,rfl⟩
      have HBG0:=z_ hbg
      have HNM:=z_ (nodeAt_mem HNA.out)
      refine (annalsref03_Begins.calls 1000000 A c row D5 d5 n.f5 n.f4 bg w5 (Kd.C_below HRW.out.1 HBL5.out) HRW.out.2.1 (Kd.V_reads' (Kd.V_below HV5.out HB5.out)).2.2 (Kd.V_reads' HV5.out).2.1 (by rw [hbg];exact rbegins_f row n.f5 HRW.out.2.2.1 (HOS.out n HNM.out) n.f4 (by have:=HRW.out.2.2.2;omega) (by have:=(HCS.out n HNM.out).1.2.2.1;omega) (HF4.out n HNM.out) 1000000 (Nat.le_refl _))).mono ?_
      rintro e w6 ⟨rfl,hb6⟩
      have HN6:=z_ (HN5.out.below hb6)
      have HR6:=z_ (Kd.R_below HR5.out hb6)
      have HBL6:=z_ (below_step HBL5.out hb6)
      clear hb6 hbg
      cases bg with
      | false=>
        have HBG:=z_ (show beginsB row n.f5 n.f4=false from HBG0.out.symm)
        go_wp2_with fail
        go_ret2
        have he:=HT.out.2.2.2
        have hw:wayO row i (some t)=([],i):=by
         have hT:=HT.out.2.1
         have hna:=HNA.out
         have hb0:=HB0.out
         cases t with
         | leaf m=>rfl
         | fork m l r=>
           obtain rfl:m=n:=Option.some.inj (hT.1.symm.trans hna)
           show (if beginsB row m.f5 m.f4 then _ else _)=_
           rw [if_neg (by rw [HBG.out];simp)]
        rw [hw] at he
        refine ⟨Af,nf,cf,?_,?_,HBL6.out⟩
        ·rw [he]
         rfl
        ·rw [he]
         show Kd.R _ _ _ _ _ _ (fs++[])
         rw [List.append_nil]
         exact HR6.out
      | true=>
        have HBG:=z_ (show beginsB row n.f5 n.f4=true from HBG0.out.symm)
        obtain ⟨m0,m1,m2,m3,m4,m5,m6,m7,m8,m9⟩:=HN6.out.cells
        go_wp2_with ((at_builtin;go_must (refine Kd.R_append (Kd.int .i64) (w0:=w) w.heap.size rfl (.tmp 41) (.tmp 43) 50 3 (.int .i64 0) 8 rfl Tryz.underlying50 infoInt rfl (by decide) (by omega) (.slice Af nf cf) fs i [.int .i64 i] (fun _=>True) (fun _=>False) rfl rfl ?aP (fun _ hk=>hk.elim) ?aF ?aO ?aB ?aS ?aL ?_;(case aP=>exact rfl);(case aB=>exact HBL6.out);(case aF=>exact (fun _ _=>trivial));(case aO=>exact HR6.out);(case aS=>exact HBL6.out.size);(case aL=>have:=HT.out.1;have:=HK.out;have:=HNB.out.1;omega);intro v1 w7 hR1 hb1 hg1 hat1;obtain ⟨A',m1,c',e'⟩:=formR hR1;subst e';have HR7:=z_ hR1;have HB7:=z_ hb1;have HN7:=z_ (show NdB w7 g9 [.bool false,.slice D1 n.f1.length d1,.slice D2 n.f2.length d2,.int .i64 n.f3,.int .i64 n.f4,.slice D5 n.f5.length d5,.int .i64 n.f6,.int .i64 n.f7,.int .i64 n.f8,.slice D9 n.f9.length d9] from blk_grown HN6.out hg1 (Kd.R_ne HR6.out HN6.out (by decide)));have HCR7:=z_ (show Kd.C (Kd.int .u8) w7 A row.length row from Kd.C_below HRW.out.1 hb1);obtain ⟨n0,n1,n2,n3,n4,n5,n6,n7,n8,n9⟩:=HN7.out.cells;clear hR1 hb1 hg1 hat1)))
        have hf4:n.f4<=1000000000:=by
         have h1:=HBG.out
         unfold beginsB at h1
         have:=HRW.out.2.2.2
         split at h1
         ·omega
         ·split at h1
          ·omega
          ·cases h1
        refine (annalsref03_Bit.calls A c row n.f4 (bitP row n.f4) w7 HCR7.out HRW.out.2.1 (rbitP_f row HRW.out.2.2.1 n.f4 hf4)).mono ?_
        rintro e w8 ⟨rfl,hdr⟩
        have HB8:=z_ hdr.below
        have hN8:=HN7.out.below hdr.below
        obtain ⟨z0,z1,z2,z3,z4,z5,z6,z7,z8,z9⟩:=hN8.cells
        clear hdr hN8 hf4 m0 m2 m3 m4 m5 m6 m7 m8 m9 n0 n1 n2 n3 n4 n5 n6 n7 n8 n9
        have hkid : ∃t',IsT cs (belowB n row) t'/\t'.h<t.h/\wayT row i t=(i :: (wayT row (belowB n row) t').1,(wayT row (belowB n row) t').2):=by
         have hT:=HT.out.2.1
         have hna:=HNA.out
         have hb0:=HB0.out
         cases t with
         | leaf m=>
           obtain rfl:m=n:=Option.some.inj (hT.1.symm.trans hna)
           rw [hT.2] at hb0
           cases hb0
         | fork m l r=>
           obtain rfl:m=n:=Option.some.inj (hT.1.symm.trans hna)
           unfold belowB
           by_cases hbit:bitP row m.f4=1
           ·rw [if_pos hbit]
            refine ⟨r,hT.2.2.2,?_,?_⟩
            ·show r.h<max l.h r.h+1
             omega
            ·show (if beginsB row m.f5 m.f4 then (if bitP row m.f4=1 then _ else _) else _)=_
             rw [if_pos HBG.out,if_pos hbit]
           ·rw [if_neg hbit]
            refine ⟨l,hT.2.2.1,?_,?_⟩
            ·show l.h<max l.h r.h+1
             omega
            ·show (if beginsB row m.f5 m.f4 then (if bitP row m.f4=1 then _ else _) else _)=_
             rw [if_pos HBG.out,if_neg hbit]
        obtain ⟨t',hkt,hkh,hkf⟩:=hkid
        have hrel':fs.length+1=(fs++[i]).length/\IsO cs (belowB n row) (some t')/\(k+1)+(wayO row (belowB n row) (some t')).1.length<=(wayO row root t0).1.length/\wayO row root t0=((fs++[i])++(wayO row (belowB n row) (some t')).1,(wayO row (belowB n row) (some t')).2):=by
         refine ⟨by simp,hkt,?_,?_⟩
         ·have h1:=HT.out.2.2.1
          have h2:(wayO row i (some t)).1.length=(wayT row (belowB n row) t').1.length+1:=by
           show (wayT row i t).1.length=_
           rw [hkf]
           simp
          show k+1+(wayT row (belowB n row) t').1.length<=_
          omega
         ·rw [HT.out.2.2.2]
          show (fs++(wayT row i t).1,(wayT row i t).2)=_
          rw [hkf]
          simp [wayO]
        have HREL:=z_ hrel'
        have HR8:=z_ (Kd.R_below HR7.out HB8.out)
        have HBL8:=z_ (below_step HB7.out HB8.out)
        clear hkt hkh hkf hrel'
        by_cases hbit:bitP row n.f4=1
        ·have hb1:(bitP row n.f4==1)=true:=by rw [hbit];rfl
         have HBB:=z_ (show n.f8=belowB n row from by unfold belowB;rw [if_pos hbit])
         clear hbit
         go_wp2_with fail
         have hw1':wrap64 ((k:Int)+1)=((k+1:Nat):Int):=by have:=HK.out;have:=HNB.out.1;rw [wrap64_id _ (by omega)];omega
         have hmeas:=way_meas (k:=k) (n:=nb) HK.out hw1'
         go_roundw
         case measure=>exact hmeas
         case rel=>exact ⟨k+1,belowB n row,some t',A',m1,c',fs++[i],rfl,by rw [HBB.out],by rw [hw1'],⟨by have h1:=HREL.out.1;have h2:=HT.out.1;omega,HREL.out.2.1,HREL.out.2.2.1,HREL.out.2.2.2⟩,HR8,HBL8⟩
        ·have hb1:(bitP row n.f4==1)=false:=by simpa using hbit
         have HBB:=z_ (show n.f7=belowB n row from by unfold belowB;rw [if_neg hbit])
         clear hbit
         go_wp2_with fail
         have hw1':wrap64 ((k:Int)+1)=((k+1:Nat):Int):=by have:=HK.out;have:=HNB.out.1;rw [wrap64_id _ (by omega)];omega
         have hmeas:=way_meas (k:=k) (n:=nb) HK.out hw1'
         go_roundw
         case measure=>exact hmeas
         case rel=>exact ⟨k+1,belowB n row,some t',A',m1,c',fs++[i],rfl,by rw [HBB.out],by rw [hw1'],⟨by have h1:=HREL.out.1;have h2:=HT.out.1;omega,HREL.out.2.1,HREL.out.2.2.1,HREL.out.2.2.2⟩,HR8,HBL8⟩
theorem IsT.node {cs:Cs} {i:Int} {t:PT} (h:IsT cs i t) : ∃n,nodeAt cs i=some n:=by
 cases t with
 | leaf n=>exact ⟨n,h.1⟩
 | fork n l r=>exact ⟨n,h.1⟩
theorem way_find (cs:Cs) (row id:List Int) : ∀(t:PT) (i:Int),IsT cs i t->
 (findT row id i t).at_=(wayT row i t).2/\(wayT row i t).1.map (nodeAt cs)=(findT row id i t).forks.map some/\nodeAt cs (findT row id i t).at_=some (findT row id i t).node/\
  (findT row id i t).same=((findT row id i t).node.f0&&decide ((findT row id i t).node.f1=id))/\(findT row id i t).forks.length<=t.h
 | .leaf n,i,h=>by
   refine ⟨rfl,rfl,h.1,?_,Nat.le_refl _⟩
   show decide (n.f1=id)=(n.f0&&decide (n.f1=id))
   rw [h.2,Bool.true_and]
 | .fork n l r,i,h=>by
   unfold findT wayT
   by_cases hb:beginsB row n.f5 n.f4=true
   ·rw [if_pos hb,if_pos hb]
    by_cases hbit:bitP row n.f4=1
    ·rw [if_pos hbit,if_pos hbit]
     obtain ⟨h1,h2,h3,h4,h5⟩:=way_find cs row id r n.f8 h.2.2.2
     refine ⟨h1,?_,h3,h4,?_⟩
     ·show nodeAt cs i :: _=some n :: _
      rw [h.1,h2]
     ·show (findT row id n.f8 r).forks.length+1<=max l.h r.h+1
      omega
    ·rw [if_neg hbit,if_neg hbit]
     obtain ⟨h1,h2,h3,h4,h5⟩:=way_find cs row id l n.f7 h.2.2.1
     refine ⟨h1,?_,h3,h4,?_⟩
     ·show nodeAt cs i :: _=some n :: _
      rw [h.1,h2]
     ·show (findT row id n.f7 l).forks.length+1<=max l.h r.h+1
      omega
   ·rw [if_neg hb,if_neg hb]
    refine ⟨rfl,rfl,h.1,?_,Nat.zero_le _⟩
    show false=(n.f0&&decide (n.f1=id))
    rw [h.2.1,Bool.false_and]
def ItB (w:World) (g:Nat) (r:List Value):Prop:=w.heap[g]? = some (.cells r.toArray 40 (0,0))
theorem ItB.below {w w1:World} {g:Nat} {r:List Value} (h:ItB w g r) (hb:Below w.heap.size w w1):ItB w1 g r:=blk_below h hb
theorem ItB.cells {w:World} {g:Nat} {y0 y1 y2:Value} (h:ItB w g [y0,y1,y2]):w.cell? ⟨g,0,none⟩=some y0/\w.cell? ⟨g,1,none⟩=some y1/\w.cell? ⟨g,2,none⟩=some y2:=
 ⟨blk_cell h 0,blk_cell h 1,blk_cell h 2⟩
theorem ItB.frozen {w:World} {g:Nat} {r:List Value} (h:ItB w g r):w.frozen? ⟨g,0,none⟩=false/\w.frozen? ⟨g,1,none⟩=false/\w.frozen? ⟨g,2,none⟩=false:=
 ⟨blk_frozen h 0,blk_frozen h 1,blk_frozen h 2⟩
def putI (w:World) (g:Nat) (x0 x1 x2:Value):World:=(((w.setCell ⟨g,0,none⟩ x0).setCell ⟨g,1,none⟩ x1).setCell ⟨g,2,none⟩ x2)
theorem putI_nd {w:World} {g:Nat} {y0 y1 y2:Value} (h:ItB w g [y0,y1,y2]) (x0 x1 x2:Value):ItB (putI w g x0 x1 x2) g [x0,x1,x2]:=by
 have h1:ItB (w.setCell ⟨g,0,none⟩ x0) g [x0,y1,y2]:=blk_set h 0 _
 have h2:ItB ((w.setCell ⟨g,0,none⟩ x0).setCell ⟨g,1,none⟩ x1) g [x0,x1,y2]:=blk_set h1 1 _
 have h3:ItB (((w.setCell ⟨g,0,none⟩ x0).setCell ⟨g,1,none⟩ x1).setCell ⟨g,2,none⟩ x2) g [x0,x1,x2]:=blk_set h2 2 _
 exact h3
theorem putI_below {w0 w:World} {g base:Nat} (h:Below base w0 w) (hg:base<=g) (x0 x1 x2:Value):Below base w0 (putI w g x0 x1 x2):=
 Below.setCell (Below.setCell (Below.setCell h hg _) hg _) hg _
theorem putI_far {w:World} {g k:Nat} (hne:k≠g) (x0 x1 x2:Value):(putI w g x0 x1 x2).heap[k]? = w.heap[k]? := by
 unfold putI
 rw [Below.heap_setCell _ ⟨g,2,none⟩ _ k hne,Below.heap_setCell _ ⟨g,1,none⟩ _ k hne,Below.heap_setCell _ ⟨g,0,none⟩ _ k hne]
structure It where
 id:List Int
 key:List Int
 since:Int
 ok:Bool
def Spot.item (s:Spot):It:=if s.same then ⟨s.node.f1,s.node.f2,s.node.f3,true⟩ else ⟨[],[],0,false⟩
def ItV (w':World) (Y:Nat->Prop) (x:It) (e:Ending):Prop:=∃(A1 A2:Option Addr) (c1 c2:Nat),e = .returned (.tuple #[.agg #[.slice A1 x.id.length c1,.slice A2 x.key.length c2,.int .i64 x.since],.bool x.ok])/\BX w' Y (.slice A1 x.id.length c1) x.id/\BX w' Y (.slice A2 x.key.length c2) x.key
theorem keyB_len (l:List Int):(keyB l).length<=256:=by unfold keyB;simp;omega
theorem keyB_ok (l:List Int) (h:BytesOk l):BytesOk (keyB l):=by
 intro x hx
 rcases List.mem_cons.1 hx with rfl|hx
 ·omega
 ·exact h x (List.mem_of_mem_take hx)
set_option maxRecDepth 100000 in
theorem results_rget (W:World) (g:Nat) {y0 y1 y2:Value} (b:Bool) (h:ItB W g [y0,y1,y2]) (tm:Array Value) (h6:tm[6]?.getD undef = .pointer (some ⟨g,0,none⟩)) (h7:tm[7]?.getD undef = .bool b):(results Tryz.f12 tm).run Tryz.prog W = .ok (.tuple #[.agg #[y0,y1,y2],.bool b]) W:=by
 obtain ⟨c0,c1,c2⟩:=h.cells
 simp [results,Tryz.results12,go_sem,h6,h7,c0,c1,c2]
set_option maxHeartbeats 8000000 in
set_option maxRecDepth 100000 in
theorem rget_calls {w:World} {base q:Nat} {size most:Int} {vl:Value} {X:Nat->Prop} {cs:Cs} (h:RefM w base q size most vl X cs) (hcs:CsOk cs) (root:Int) (A:Option Addr) (c:Nat) (id:List Int) (hid:Kd.C (Kd.int .u8) w A id.length id) (hc:id.length<=c) (ho:BytesOk id) (hos : ∀n,some n∈cs->BytesOk n.f1/\BytesOk n.f5/\n.f4<=9223372036854775807) (t0:Option PT) (ht0:IsO cs root t0) (hh:(wayO (keyB id) root t0).1.length<=8*(keyB id).length) (hn1:nodeAt cs (-1)=none):
 Calls Tryz.prog 12 #[.pointer (some ⟨q,0,none⟩),.int .i64 root,.slice A id.length c] w fun e w'=>ItV w' (fun k=>w.heap.size<=k) (findO (keyB id) id root t0).item e/\Below w.heap.size w w':=by
 have HA:=z_ h
 have HCS:=z_ hcs
 have HID:=z_ (show Kd.C (Kd.int .u8) w A id.length id/\id.length<=c/\BytesOk id from ⟨hid,hc,ho⟩)
 have HOS:=z_ hos
 have HT0:=z_ (And.intro ht0 hh)
 have HN1:=z_ hn1
 clear h hcs hid hc ho hos ht0 hh hn1
 go_enter Tryz.func12,Tryz.ntmps12
 go_wp2_with fail
 obtain ⟨w1,hw1⟩ : ∃w1,w1=w.alloc (.cells #[.slice none 0 0,.slice none 0 0,.int .i64 0] 40):=⟨_,rfl⟩
 rw [<-hw1]
 have HB1:=z_ (show Below w.heap.size w w1 from by rw [hw1];exact below_alloc (Below.refl _ _) _)
 have HG1:=z_ (show ItB w1 w.heap.size [.slice none 0 0,.slice none 0 0,.int .i64 0] from by rw [hw1];exact heap_alloc_new w _)
 obtain ⟨g,hg⟩ : ∃g,g=w.heap.size:=⟨_,rfl⟩
 rw [<-hg] at HG1
 rw [<-hg]
 have HGE:=z_ hg
 clear hw1 hg
 refine (rkey_calls A c id w1 (Kd.C_below HID.out.1 HB1.out) HID.out.2.1).mono ?_
 rintro e w2 ⟨v,rfl,hR,hb⟩
 obtain ⟨Ak,nk,ck,rfl⟩:=formR hR
 obtain ⟨row,hrow⟩ : ∃row,row=keyB id:=⟨_,rfl⟩
 rw [<-hrow] at hR
 have HRW:=z_ hrow
 obtain rfl:nk=row.length:=(Kd.R_reads' hR).1
 have HR2:=z_ (Kd.R_reads' hR)
 have HB2:=z_ (below_step HB1.out hb)
 have HG2:=z_ (HG1.out.below hb)
 clear hR hb hrow
 go_wp2_with fail
 refine (way_calls (HA.out.below HB2.out) HCS.out root Ak ck row HR2.out.2.2 HR2.out.2.1 (by rw [HRW.out];exact keyB_ok id HID.out.2.2) (by rw [HRW.out];exact keyB_len id) (fun n hn=>(HOS.out n hn).2.1) t0 HT0.out.1 (by rw [HRW.out];exact HT0.out.2) (fun n hn=>(HOS.out n hn).2.2)).mono ?_
 rintro e w3 ⟨Af,nf,cf,rfl,hRf,hb⟩
 have HB3:=z_ (below_step HB2.out hb)
 have HG3:=z_ (HG2.out.below hb)
 obtain ⟨at_,hat⟩ : ∃a,a=(wayO row root t0).2:=⟨_,rfl⟩
 rw [<-hat]
 have HAT:=z_ hat
 clear hRf hb hat
 go_wp2_with fail
 refine (rnode_calls (HA.out.below HB3.out) at_ (fun n hn=>(HCS.out.at at_ n hn).1)).mono ?_
 rintro e w4 ⟨hN,hb⟩
 have HB4:=z_ (below_step HB3.out hb)
 have HG4:=z_ (HG3.out.below hb)
 have HSP:=z_ (show (nodeAt cs at_=none/\findO row id root t0=⟨[],-1,z59,false⟩)\/∃n,nodeAt cs at_=some n/\(findO row id root t0).node=n/\(findO row id root t0).same=(n.f0&&decide (n.f1=id)) from by
  cases t0 with
  | none=>
    left
    rw [HAT.out]
    exact ⟨HN1.out,rfl⟩
  | some t=>
    right
    obtain ⟨h1,h2,h3,h4,h5⟩:=way_find cs row id t root HT0.out.1
    refine ⟨(findT row id root t).node,?_,rfl,h4⟩
    rw [HAT.out]
    show nodeAt cs (wayT row root t).2=_
    rw [<-h1]
    exact h3)
 obtain ⟨n,b,hn,hb_,D1,D2,D5,D9,d1,d2,d5,d9,rfl,x1,x2,x5,x9⟩:=hN.all
 have HNB:=z_ (And.intro hn hb_)
 have HV1:=z_ x1
 have HV2:=z_ x2
 obtain ⟨b0,hb0⟩ : ∃b0,n.f0=b0:=⟨_,rfl⟩
 rw [hb0]
 have HB0:=z_ hb0
 have HBq:=z_ hb
 clear hN hn hb_ hb0 x1 x2 x5 x9 hb
 have HB5:=z_ (show Below w4.heap.size w4 (w4.alloc (.cells #[.bool b0,.slice D1 n.f1.length d1,.slice D2 n.f2.length d2,.int .i64 n.f3,.int .i64 n.f4,.slice D5 n.f5.length d5,.int .i64 n.f6,.int .i64 n.f7,.int .i64 n.f8,.slice D9 n.f9.length d9] 59)) from below_alloc (Below.refl _ _) _)
 obtain ⟨m0,m1,m2,m3,m4,m5,m6,m7,m8,m9⟩:=(show NdB (w4.alloc (.cells #[.bool b0,.slice D1 n.f1.length d1,.slice D2 n.f2.length d2,.int .i64 n.f3,.int .i64 n.f4,.slice D5 n.f5.length d5,.int .i64 n.f6,.int .i64 n.f7,.int .i64 n.f8,.slice D9 n.f9.length d9] 59)) w4.heap.size [.bool b0,.slice D1 n.f1.length d1,.slice D2 n.f2.length d2,.int .i64 n.f3,.int .i64 n.f4,.slice D5 n.f5.length d5,.int .i64 n.f6,.int .i64 n.f7,.int .i64 n.f8,.slice D9 n.f9.length d9] from heap_alloc_new w4 _).cells
 have HG5:=z_ (HG4.out.below HB5.out)
 obtain ⟨z0,z1,z2⟩:=HG5.out.cells
 obtain ⟨f0,f1,f2⟩:=HG5.out.frozen
 have hne:g≠w4.heap.size:=by have:=blk_lt HG4.out;omega
 have hne2:w4.heap.size≠g:=hne.symm
 have v1:=Kd.C_string (P:=Tryz.prog) (A:=D1) (c:=d1) Tryz.underlying23 Tryz.underlying5 Tryz.underlying9 (Kd.C_below (Kd.V_reads' HV1.out).2.2 HB5.out)
 have v2:=Kd.C_string (P:=Tryz.prog) (A:=A) (c:=c) Tryz.underlying23 Tryz.underlying5 Tryz.underlying9 (Kd.C_below HID.out.1 (below_step HB4.out HB5.out))
 cases b with
 | false=>
   go_wp2_with fail
   refine bodyPost_ret (results_rget _ g false (putI_nd HG5.out (.slice none 0 0) (.slice none 0 0) (.int .i64 0)) _ rfl rfl) rfl ⟨?_,putI_below (below_step HB4.out HB5.out) (by rw [HGE.out];exact Nat.le_refl _) _ _ _⟩
   have hs:(findO (keyB id) id root t0).same=false:=by
    rw [<-HRW.out]
    rcases HSP.out with ⟨h1,h2⟩|⟨n',h1,h2,h3⟩
    ·rw [h2]
    ·have h4:=HNB.out
     rw [h1] at h4
     exact absurd h4.2 (by simp)
   unfold Spot.item
   rw [hs]
   exact ⟨none,none,0,0,rfl,Kd.V_nil _ _ _ _ _,Kd.V_nil _ _ _ _ _⟩
 | true=>
   cases b0 with
   | false=>
     go_wp2_with fail
     refine bodyPost_ret (results_rget _ g false (putI_nd HG5.out (.slice none 0 0) (.slice none 0 0) (.int .i64 0)) _ rfl rfl) rfl ⟨?_,putI_below (below_step HB4.out HB5.out) (by rw [HGE.out];exact Nat.le_refl _) _ _ _⟩
     have hs:(findO (keyB id) id root t0).same=false:=by
      rw [<-HRW.out]
      rcases HSP.out with ⟨h1,h2⟩|⟨n',h1,h2,h3⟩
      ·rw [h2]
      ·have h4:=HNB.out
       rw [h1] at h4
       obtain rfl:n=n':=h4.1;rw [h3,HB0.out,Bool.false_and]
     unfold Spot.item
     rw [hs]
     exact ⟨none,none,0,0,rfl,Kd.V_nil _ _ _ _ _,Kd.V_nil _ _ _ _ _⟩
   | true=>
     have HNM:=z_ (show some n∈cs from by
      rcases HSP.out with ⟨h1,_⟩|⟨n',h1,_,_⟩
      ·have h4:=HNB.out.2
       rw [h1] at h4
       cases h4
      ·have h4:=HNB.out.1
       rw [h1] at h4
       obtain rfl:n=n':=h4
       exact nodeAt_mem h1)
     by_cases hid:n.f1=id
     ·have HIE:=z_ hid
      have hse:((strOfNums n.f1).toList !=(strOfNums id).toList)=false:=by rw [hid];simp
      have hse2:((strOfNums n.f1).toList==(strOfNums id).toList)=true:=by rw [hid];simp
      have hse3:((strOfNums n.f1).toList=(strOfNums id).toList)=True:=by rw [hid];simp
      clear hid
      go_wp2_with fail
      refine bodyPost_ret (results_rget _ g true (putI_nd HG5.out (.slice D1 n.f1.length d1) (.slice D2 n.f2.length d2) (.int .i64 n.f3)) _ rfl rfl) rfl ⟨?_,putI_below (below_step HB4.out HB5.out) (by rw [HGE.out];exact Nat.le_refl _) _ _ _⟩
      have hs:(findO (keyB id) id root t0).item=⟨n.f1,n.f2,n.f3,true⟩:=by
       rw [<-HRW.out]
       have h4:=HNB.out
       rcases HSP.out with ⟨h1,h2⟩|⟨n',h1,h2,h3⟩
       ·rw [h1] at h4
        cases h4.2
       ·rw [h1] at h4
        obtain rfl:n=n':=h4.1
        unfold Spot.item
        rw [h3,HB0.out,decide_eq_true HIE.out,h2]
        rfl
      rw [hs]
      have hst : ∀k,w3.heap.size<=k->k<w4.heap.size->(putI (w4.alloc (.cells #[.bool true,.slice D1 n.f1.length d1,.slice D2 n.f2.length d2,.int .i64 n.f3,.int .i64 n.f4,.slice D5 n.f5.length d5,.int .i64 n.f6,.int .i64 n.f7,.int .i64 n.f8,.slice D9 n.f9.length d9] 59)) g (.slice D1 n.f1.length d1) (.slice D2 n.f2.length d2) (.int .i64 n.f3)).heap[k]? = w4.heap[k]? := fun k hk hl=>by
       rw [putI_far (by have:=blk_lt HG3.out;omega)]
       exact HB5.out.block k hl
      exact ⟨D1,D2,d1,d2,rfl,Kd.V_mono (Kd.V_step HV1.out hst) (fun k hk=>by have:=HB3.out.size;omega),Kd.V_mono (Kd.V_step HV2.out hst) (fun k hk=>by have:=HB3.out.size;omega)⟩
     ·have HIE:=z_ hid
      have hse:((strOfNums n.f1).toList !=(strOfNums id).toList)=true:=by
       have:=strNum_eq (HOS.out n HNM.out).1 HID.out.2.2
       rw [decide_eq_false hid] at this
       simp only [bne,this,Bool.not_false]
      have hse2:((strOfNums n.f1).toList==(strOfNums id).toList)=false:=by
       have:=strNum_eq (HOS.out n HNM.out).1 HID.out.2.2
       rwa [decide_eq_false hid] at this
      have hse3:((strOfNums n.f1).toList=(strOfNums id).toList)=False:=by
       have h0:=beq_eq_false_iff_ne.1 hse2
       exact eq_false h0
      clear hid
      go_wp2_with fail
      refine bodyPost_ret (results_rget _ g false (putI_nd HG5.out (.slice none 0 0) (.slice none 0 0) (.int .i64 0)) _ rfl rfl) rfl ⟨?_,putI_below (below_step HB4.out HB5.out) (by rw [HGE.out];exact Nat.le_refl _) _ _ _⟩
      have hs:(findO (keyB id) id root t0).same=false:=by
       rw [<-HRW.out]
       rcases HSP.out with ⟨h1,h2⟩|⟨n',h1,h2,h3⟩
       ·rw [h2]
       ·have h4:=HNB.out
        rw [h1] at h4
        obtain rfl:n=n':=h4.1;rw [h3,decide_eq_false HIE.out,Bool.and_false]
      unfold Spot.item
      rw [hs]
      exact ⟨none,none,0,0,rfl,Kd.V_nil _ _ _ _ _,Kd.V_nil _ _ _ _ _⟩
def Spot.needs (s:Spot):Nat:=s.forks.length+1+(if s.at_≠ -1/\s.same=false then 1 else 0)
theorem way_o (cs:Cs) (row id:List Int) (root:Int) (t:Option PT) (h:IsO cs root t):(findO row id root t).at_=(wayO row root t).2/\(wayO row root t).1.length=(findO row id root t).forks.length/\(findO row id root t).forks.length<=heightO t/\(((findO row id root t).at_ = -1/\(findO row id root t).same=false)\/0<=(findO row id root t).at_):=by
 cases t with
 | none=>exact ⟨rfl,rfl,Nat.le_refl _,.inl ⟨rfl,rfl⟩⟩
 | some t=>
   obtain ⟨h1,h2,h3,h4,h5⟩:=way_find cs row id t root h
   refine ⟨h1,?_,h5,.inr ?_⟩
   ·have:=congrArg List.length h2
    show (wayT row root t).1.length=(findT row id root t).forks.length
    simpa using this
   ·exact (nodeAt_lt (show (nodeAt cs (findT row id root t).at_).isSome=true by rw [h3];rfl)).1
def needsO (root:Int) (t:Option PT) (s:Spot):Int:=if root≠ -1/\t.isSome=false then 0 else (s.needs:Int)
theorem IsO.isSome {cs:Cs} {root:Int} {t:Option PT} (h:IsO cs root t):(nodeAt cs root).isSome=t.isSome:=by
 cases t with
 | none=>rw [show nodeAt cs root=none from h];rfl
 | some t=>
   obtain ⟨n,hn⟩:=IsT.node h
   rw [hn]
   rfl
theorem spot_ok (row id:List Int) (root:Int) (t:Option PT):(findO row id root t).item.ok=(findO row id root t).same:=by
 unfold Spot.item
 cases h:(findO row id root t).same<;>simp
set_option maxHeartbeats 8000000 in
set_option maxRecDepth 100000 in
theorem rneeds_calls {w:World} {base q:Nat} {size most:Int} {vl:Value} {X:Nat->Prop} {cs:Cs} (h:RefM w base q size most vl X cs) (hcs:CsOk cs) (root:Int) (A:Option Addr) (c:Nat) (id:List Int) (hid:Kd.C (Kd.int .u8) w A id.length id) (hc:id.length<=c) (ho:BytesOk id) (hos : ∀n,some n∈cs->BytesOk n.f1/\BytesOk n.f5/\n.f4<=9223372036854775807) (t0:Option PT) (ht0:IsO cs root t0) (hh:(wayO (keyB id) root t0).1.length<=8*(keyB id).length) (hn1:nodeAt cs (-1)=none):
 Calls Tryz.prog 8 #[.pointer (some ⟨q,0,none⟩),.int .i64 root,.slice A id.length c] w fun e w'=>e = .returned (.int .i64 (needsO root t0 (findO (keyB id) id root t0)))/\Below w.heap.size w w':=by
 have HA:=z_ h
 have HCS:=z_ hcs
 have HID:=z_ (show Kd.C (Kd.int .u8) w A id.length id/\id.length<=c/\BytesOk id from ⟨hid,hc,ho⟩)
 have HOS:=z_ hos
 have HT0:=z_ (And.intro ht0 hh)
 have HN1:=z_ hn1
 clear h hcs hid hc ho hos ht0 hh hn1
 go_enter Tryz.func8,Tryz.ntmps8
 go_wp2_with fail
 refine (rnode_calls HA.out root (fun n hn=>(HCS.out.at root n hn).1)).mono ?_
 rintro e w1 ⟨hN,hb⟩
 obtain ⟨n,b,hn,hb_,D1,D2,D5,D9,d1,d2,d5,d9,rfl,x1,x2,x5,x9⟩:=hN.all
 have HB1:=z_ hb
 have HBO:=z_ (show b=t0.isSome from hb_.trans (IsO.isSome HT0.out.1))
 clear hN hn hb_ x1 x2 x5 x9 hb
 obtain ⟨w2,hw2⟩ : ∃w2,w2=w1.alloc (.cells #[.bool n.f0,.slice D1 n.f1.length d1,.slice D2 n.f2.length d2,.int .i64 n.f3,.int .i64 n.f4,.slice D5 n.f5.length d5,.int .i64 n.f6,.int .i64 n.f7,.int .i64 n.f8,.slice D9 n.f9.length d9] 59):=⟨_,rfl⟩
 have HB2:=z_ (show Below w.heap.size w w2 from by rw [hw2];exact below_alloc HB1.out _)
 by_cases hz:root≠ -1/\b=false
 ·obtain ⟨hr,rfl⟩:=hz
  have hr1:(root != -1)=true:=by simpa using hr
  have HZ:=z_ (show needsO root t0 (findO (keyB id) id root t0)=0 from by
   unfold needsO
   rw [if_pos ⟨hr,HBO.out.symm⟩])
  clear hr
  go_wp2_with fail
  go_ret
  exact ⟨by rw [HZ.out];rfl,by rw [<-hw2];exact HB2.out⟩
 ·have HZ:=z_ (show needsO root t0 (findO (keyB id) id root t0)=((findO (keyB id) id root t0).needs:Int) from by
   unfold needsO
   rw [if_neg (by rw [<-HBO.out];exact hz)])
  have hpk:(root != -1)=false\/b=true:=by
   cases b with
   | true=>exact .inr rfl
   | false=>
     have:root = -1:=Classical.byContradiction fun hr=>hz ⟨hr,rfl⟩
     exact .inl (by simp [this])
  clear hz
  have HGO : ∀(K:Prop),((root != -1)=false->K)->((root != -1)=true->b=true->K)->K:=fun K h1 h2=>by
   cases h3:(root != -1) with
   | false=>exact h1 h3
   | true=> rcases hpk with h4|h4
            ·rw [h3] at h4;cases h4
            ·exact h2 h3 h4
  clear hpk
  refine HGO _ (fun hr1=>?_) (fun hr1 hb1=>?_)
  ·clear HGO
   go_wp2_with fail
   rw [<-hw2]
   clear hw2
   refine (rkey_calls A c id w2 (Kd.C_below HID.out.1 HB2.out) HID.out.2.1).mono ?_
   rintro e w3 ⟨v,rfl,hR,hb⟩
   obtain ⟨Ak,nk,ck,rfl⟩:=formR hR
   obtain ⟨row,hrow⟩ : ∃row,row=keyB id:=⟨_,rfl⟩
   rw [<-hrow] at hR
   have HRW:=z_ hrow
   obtain rfl:nk=row.length:=(Kd.R_reads' hR).1
   have HR2:=z_ (Kd.R_reads' hR)
   have HB3:=z_ (below_step HB2.out hb)
   clear hR hb hrow
   go_wp2_with fail
   refine (way_calls (HA.out.below HB3.out) HCS.out root Ak ck row HR2.out.2.2 HR2.out.2.1 (by rw [HRW.out];exact keyB_ok id HID.out.2.2) (by rw [HRW.out];exact keyB_len id) (fun n hn=>(HOS.out n hn).2.1) t0 HT0.out.1 (by rw [HRW.out];exact HT0.out.2) (fun n hn=>(HOS.out n hn).2.2)).mono ?_
   rintro e w4 ⟨Af,nf,cf,rfl,hRf,hb⟩
   have HB4:=z_ (below_step HB3.out hb)
   have HF4:=z_ (Kd.R_reads' hRf).1
   clear hRf hb
   go_wp2_with fail
   refine (rget_calls (HA.out.below HB4.out) HCS.out root A c id (Kd.C_below HID.out.1 HB4.out) HID.out.2.1 HID.out.2.2 HOS.out t0 HT0.out.1 HT0.out.2 HN1.out).mono ?_
   rintro e w5 ⟨⟨A1,A2,c1,c2,rfl,x1,x2⟩,hb⟩
   have HB5:=z_ (below_step HB4.out hb)
   clear x1 x2 hb
   rw [spot_ok]
   obtain ⟨hwa,hwl,hwh,hws⟩:=way_o cs row id root t0 HT0.out.1
   rw [<-HRW.out,<-hwa]
   have HNF:=z_ (show nf=(findO row id root t0).forks.length from HF4.out.trans hwl)
   have HNL:=z_ (show nf<=2048 from by have h1:=HT0.out.2;have:=keyB_len id;have h2:=HF4.out;rw [HRW.out] at h2;omega)
   have HWS:=z_ hws
   clear hwa hwl hwh hws HF4
   have hl1:wrap64 ((nf:Int)+1)=(nf:Int)+1:=wrap64_id _ (by have:=HNL.out;omega)
   have hl2:wrap64 ((nf:Int)+2)=(nf:Int)+2:=wrap64_id _ (by have:=HNL.out;omega)
   have HRS:=z_ (show ((findO row id root t0).needs:Int)=(nf:Int)+1+(if (findO row id root t0).at_≠ -1/\(findO row id root t0).same=false then 1 else 0) from by unfold Spot.needs;rw [HNF.out];split<;>omega)
   have HE:=z_ (show needsO root t0 (findO (keyB id) id root t0)=(nf:Int)+1+(if (findO row id root t0).at_≠ -1/\(findO row id root t0).same=false then 1 else 0) from HZ.out.trans (by rw [<-HRW.out];exact HRS.out))
   obtain ⟨sm,hsm⟩ : ∃sm,sm=(findO row id root t0).same:=⟨_,rfl⟩
   obtain ⟨at_,hat⟩ : ∃a,a=(findO row id root t0).at_:=⟨_,rfl⟩
   rw [<-hsm,<-hat] at HE HWS
   rw [<-hsm,<-hat]
   clear hsm hat HRS HZ
   have HB6:=fun (o:Obj)=>z_ (below_alloc HB5.out o)
   cases sm with
   | true=>
     go_wp2_with fail
     go_ret
     exact ⟨by rw [HE.out,if_neg (by simp)];show Ending.returned (.int .i64 (wrap64 ((nf:Int)+1)))=_;rw [hl1];simp,(HB6 _).out⟩
   | false=>
     by_cases hat:at_<0
     ·have hd:decide (at_<0)=true:=decide_eq_true hat
      have HA1:=z_ (show at_ = -1 from by have:=HWS.out;omega)
      clear hat
      go_wp2_with fail
      go_ret
      exact ⟨by rw [HE.out,if_neg (by rw [HA1.out];simp)];show Ending.returned (.int .i64 (wrap64 ((nf:Int)+1)))=_;rw [hl1];simp,(HB6 _).out⟩
     ·have hd:decide (at_<0)=false:=decide_eq_false hat
      have HA1:=z_ (show at_≠ -1 from by omega)
      clear hat
      go_wp2_with fail
      go_ret
      exact ⟨by rw [HE.out,if_pos ⟨HA1.out,by simp⟩];show Ending.returned (.int .i64 (wrap64 ((nf:Int)+2)))=_;rw [hl2,show (nf:Int)+2=(nf:Int)+1+1 by omega],(HB6 _).out⟩
  ·clear HGO
   subst hb1
   go_wp2_with fail
   rw [<-hw2]
   clear hw2
   refine (rkey_calls A c id w2 (Kd.C_below HID.out.1 HB2.out) HID.out.2.1).mono ?_
   rintro e w3 ⟨v,rfl,hR,hb⟩
   obtain ⟨Ak,nk,ck,rfl⟩:=formR hR
   obtain ⟨row,hrow⟩ : ∃row,row=keyB id:=⟨_,rfl⟩
   rw [<-hrow] at hR
   have HRW:=z_ hrow
   obtain rfl:nk=row.length:=(Kd.R_reads' hR).1
   have HR2:=z_ (Kd.R_reads' hR)
   have HB3:=z_ (below_step HB2.out hb)
   clear hR hb hrow
   go_wp2_with fail
   refine (way_calls (HA.out.below HB3.out) HCS.out root Ak ck row HR2.out.2.2 HR2.out.2.1 (by rw [HRW.out];exact keyB_ok id HID.out.2.2) (by rw [HRW.out];exact keyB_len id) (fun n hn=>(HOS.out n hn).2.1) t0 HT0.out.1 (by rw [HRW.out];exact HT0.out.2) (fun n hn=>(HOS.out n hn).2.2)).mono ?_
   rintro e w4 ⟨Af,nf,cf,rfl,hRf,hb⟩
   have HB4:=z_ (below_step HB3.out hb)
   have HF4:=z_ (Kd.R_reads' hRf).1
   clear hRf hb
   go_wp2_with fail
   refine (rget_calls (HA.out.below HB4.out) HCS.out root A c id (Kd.C_below HID.out.1 HB4.out) HID.out.2.1 HID.out.2.2 HOS.out t0 HT0.out.1 HT0.out.2 HN1.out).mono ?_
   rintro e w5 ⟨⟨A1,A2,c1,c2,rfl,x1,x2⟩,hb⟩
   have HB5:=z_ (below_step HB4.out hb)
   clear x1 x2 hb
   rw [spot_ok]
   obtain ⟨hwa,hwl,hwh,hws⟩:=way_o cs row id root t0 HT0.out.1
   rw [<-HRW.out,<-hwa]
   have HNF:=z_ (show nf=(findO row id root t0).forks.length from HF4.out.trans hwl)
   have HNL:=z_ (show nf<=2048 from by have h1:=HT0.out.2;have:=keyB_len id;have h2:=HF4.out;rw [HRW.out] at h2;omega)
   have HWS:=z_ hws
   clear hwa hwl hwh hws HF4
   have hl1:wrap64 ((nf:Int)+1)=(nf:Int)+1:=wrap64_id _ (by have:=HNL.out;omega)
   have hl2:wrap64 ((nf:Int)+2)=(nf:Int)+2:=wrap64_id _ (by have:=HNL.out;omega)
   have HRS:=z_ (show ((findO row id root t0).needs:Int)=(nf:Int)+1+(if (findO row id root t0).at_≠ -1/\(findO row id root t0).same=false then 1 else 0) from by unfold Spot.needs;rw [HNF.out];split<;>omega)
   have HE:=z_ (show needsO root t0 (findO (keyB id) id root t0)=(nf:Int)+1+(if (findO row id root t0).at_≠ -1/\(findO row id root t0).same=false then 1 else 0) from HZ.out.trans (by rw [<-HRW.out];exact HRS.out))
   obtain ⟨sm,hsm⟩ : ∃sm,sm=(findO row id root t0).same:=⟨_,rfl⟩
   obtain ⟨at_,hat⟩ : ∃a,a=(findO row id root t0).at_:=⟨_,rfl⟩
   rw [<-hsm,<-hat] at HE HWS
   rw [<-hsm,<-hat]
   clear hsm hat HRS HZ
   have HB6:=fun (o:Obj)=>z_ (below_alloc HB5.out o)
   cases sm with
   | true=>
     go_wp2_with fail
     go_ret
     exact ⟨by rw [HE.out,if_neg (by simp)];show Ending.returned (.int .i64 (wrap64 ((nf:Int)+1)))=_;rw [hl1];simp,(HB6 _).out⟩
   | false=>
     by_cases hat:at_<0
     ·have hd:decide (at_<0)=true:=decide_eq_true hat
      have HA1:=z_ (show at_ = -1 from by have:=HWS.out;omega)
      clear hat
      go_wp2_with fail
      go_ret
      exact ⟨by rw [HE.out,if_neg (by rw [HA1.out];simp)];show Ending.returned (.int .i64 (wrap64 ((nf:Int)+1)))=_;rw [hl1];simp,(HB6 _).out⟩
     ·have hd:decide (at_<0)=false:=decide_eq_false hat
      have HA1:=z_ (show at_≠ -1 from by omega)
      clear hat
      go_wp2_with fail
      go_ret
      exact ⟨by rw [HE.out,if_pos ⟨HA1.out,by simp⟩];show Ending.returned (.int .i64 (wrap64 ((nf:Int)+2)))=_;rw [hl2,show (nf:Int)+2=(nf:Int)+1+1 by omega],(HB6 _).out⟩
end Go.Proofs.YtdeneoknjeegbaaGreatDoor.P
end
