/- Lemmas of this claim, part 17. -/
import Derived.Test.YtdeneoknjeegbaaGreatDoorPartPtreeLives2
set_option linter.unusedVariables false
set_option linter.unusedSimpArgs false
section
namespace Go.Proofs.YtdeneoknjeegbaaGreatDoor.P
open Go.RowKit YtdeneoknjeegbaaGreatDoorW.PrintWords YtdeneoknjeegbaaGreatDoorW.PrintLast YtdeneoknjeegbaaGreatDoorW.PrintMore
attribute [local go_sem] max2_int min2_int max_two min_two max_three min_three max_four min_four
def annalslaw10_few.l0:Nat->List (S34)->List (S34)->Int->Int->Option ((List (S34)))
 | 0,_,_,_,_=>none
 | k+1,x3,x6,x7,x8=>if x8<x7 then (if 0<=x8 then (if x8<(x6.length:Int) then (if x8<30 then (if 0<=(mn (((rd_T34 x6 x8).f0).length:Int) 30) then (if (mn (((rd_T34 x6 x8).f0).length:Int) 30)<=(((rd_T34 x6 x8).f0).length:Int) then (if 0<=(mn (((rd_T34 x6 x8).f1).length:Int) 100) then (if (mn (((rd_T34 x6 x8).f1).length:Int) 100)<=(((rd_T34 x6 x8).f1).length:Int) then (if x3.length<2513169434916 then (annalslaw10_few.l0 k (x3++[(⟨(((rd_T34 x6 x8).f0).take ((mn (((rd_T34 x6 x8).f0).length:Int) 30):Int).toNat),(((rd_T34 x6 x8).f1).take ((mn (((rd_T34 x6 x8).f1).length:Int) 100):Int).toNat),(rd_T34 x6 x8).f2⟩:S34)]) x6 x7 (wrap64 (x8+1))) else (none)) else (none)) else (none)) else (none)) else (none)) else (annalslaw10_few.l0 k x3 x6 x7 (wrap64 (x8+1)))) else (none)) else (none)) else (some x3)
def annalslaw10_few.f (k:Nat) (l0:List (S34)):Option ((List (S34))):=annalslaw10_few.l0 k ([]:List (S34)) l0 (l0.length:Int) 0
def annalslaw10_few.T6:Bool×List (List Nat×List Nat):=(true,[([],[]),([0],[0]),([],[]),([2],[2]),([3],[3]),([4],[4]),([1,5],[1,5]),([],[]),([7],[7]),([],[]),([9],[9]),([10],[10]),([11],[11]),([8,12],[8,12]),([0,1,2,3,4,5,6,7,8,9,10],[]),([14,6,0,1,2,3,4,5,6,7,8,9,10],[6,14]),([0,1,2,3,4,5,6,7,8,9,10,11,12,13,14,15],[]),([16,13,15,0,1,2,3,4,5,6,7,8,9,10,11,12,13,14,15],[13,16])])
def annalslaw10_few.B6:List Nat:=[0,1,0,4,12,28,63,0,128,0,512,1536,3584,8064,2047,18431,65535,131071]
theorem annalslaw10_few.tab6:rtab .any (opsOf Tryz.f6 6)=annalslaw10_few.T6:=by kernel_rfl
theorem annalslaw10_few.bits6:waitsOk annalslaw10_few.T6.2 annalslaw10_few.B6=true:=by kernel_rfl
set_option maxHeartbeats 8000000 in
set_option maxRecDepth 100000 in
theorem annalslaw10_few.calls (k:Nat) (P0_:Nat->Prop) (A0:Option Addr) (c0:Nat) (l0:List (S34)) (r:List (S34)) (w:World) (hs0:Kd.V k34 34 w w.heap.size (fun k_=>P0_ k_) (.slice A0 l0.length c0) l0) (h:annalslaw10_few.f k l0=some r):
 Calls Tryz.prog 6 #[.slice A0 l0.length c0] w fun e w'=>∃v0_:Value,e = .returned (v0_)/\Kd.N k34 34 w' w.heap.size (fun k_=>(P0_ k_\/w.heap.size<=k_)) v0_ r/\Below w.heap.size w w':=by
 have hu34:=Tryz.underlying34
 have HO0:=z_ (show Kd.V k34 34 w w.heap.size (fun k_=>(P0_ k_\/w.heap.size<=k_)) (.slice A0 l0.length c0) l0 from Kd.V_mono hs0 (fun k_ hk=>.inl hk))
 have HB:=z_ (Below.refl w.heap.size w)
 have H:(annalslaw10_few.l0 k ([]:List (S34)) l0 (l0.length:Int) 0)=some r:=h
 clear h
 have H':=z_ H
 clear H
 go_enter Tryz.func6,Tryz.ntmps6
 go_wp2
 go_loopg [3,8] k (fun kq v3 v8 w'=>∃(x3_1:List (S34)) (x8_1:Int),v8 = .int .i64 x8_1/\Aside0 (annalslaw10_few.l0 kq x3_1 l0 (l0.length:Int) x8_1=some r)/\Aside0 (kq<=k)/\Aside0 (Kd.N k34 34 w' w.heap.size (fun k_=>(P0_ k_\/w.heap.size<=k_)) v3 x3_1)/\Aside0 (Kd.V k34 34 w' w.heap.size (fun k_=>(P0_ k_\/w.heap.size<=k_)/\some k_≠(v3:Value).ownBlock) (.slice A0 l0.length c0) l0)/\Aside0 (Below w.heap.size w w'))
 case atStart=>exact ⟨(([]:List (S34))),(0),(by first|rfl|(simp;done)|(simp [*];done)),H',⟨Nat.le_refl _⟩,⟨by first|exact Kd.S_nil _ _ _ _ _|exact Kd.N_nil _ _ _ _ _|exact Kd.V_nil _ _ _ _ _|exact Kd.Q_nil _ _ _ _ _|exact Kd.R_nil _ _ _ _ _⟩,⟨by (with_reducible repeat (first|apply Kd.V_alloc|apply Kd.V_drewN|apply Kd.V_drew));exact Kd.V_mono HO0.out (fun _ hk=>⟨hk,(by simp [Value.ownBlock])⟩)⟩,⟨by repeat (first|(with_reducible first|exact HB.out|apply below_alloc|apply pw_below_drewN|apply below_drew1)|exact HB.out)⟩⟩
 case round=>
  clear H'
  obtain ⟨x3_1,x8_1,rfl,HA,HK1,HO_3,HO_6,HB⟩:=hrel
  cases gk with
  | zero=>exact absurd HA.out (by simp [annalslaw10_few.l0])
  | succ k1=>
    have H:=HA.out
    clear HA
    simp only [annalslaw10_few.l0] at H
    by_cases c2:x8_1<(l0.length:Int)
    ·rw [if_pos c2] at H
     have c2b0:decide (x8_1<(l0.length:Int))=true:=decide_eq_true c2
     clear c2
     by_cases c3:0<=x8_1
     ·rw [if_pos c3] at H
      have c3b0:decide (0<=x8_1)=true:=decide_eq_true c3
      clear c3
      by_cases c4:x8_1<(l0.length:Int)
      ·rw [if_pos c4] at H
       have c4b0:decide (x8_1<(l0.length:Int))=true:=decide_eq_true c4
       clear c4
       by_cases c5:x8_1<30
       ·rw [if_pos c5] at H
        have c5b0:decide (x8_1<30)=true:=decide_eq_true c5
        clear c5
        obtain ⟨ji6,hji6⟩ : ∃j_:Int,(mn (((rd_T34 l0 x8_1).f0).length:Int) 30)=j_:=⟨_,rfl⟩
        replace H:(if 0<=(ji6) then (if (ji6)<=(((rd_T34 l0 x8_1).f0).length:Int) then (if 0<=(mn (((rd_T34 l0 x8_1).f1).length:Int) 100) then (if (mn (((rd_T34 l0 x8_1).f1).length:Int) 100)<=(((rd_T34 l0 x8_1).f1).length:Int) then (if x3_1.length<2513169434916 then (annalslaw10_few.l0 k1 (x3_1++[(⟨(((rd_T34 l0 x8_1).f0).take ((ji6):Int).toNat),(((rd_T34 l0 x8_1).f1).take ((mn (((rd_T34 l0 x8_1).f1).length:Int) 100):Int).toNat),(rd_T34 l0 x8_1).f2⟩:S34)]) l0 (l0.length:Int) (wrap64 (x8_1+1))) else (none)) else (none)) else (none)) else (none)) else (none))=some r:=by first|(rw [hji6] at H;exact H)|(simp only [hji6] at H ⊢;exact H)
        have hji6_:(if 30<(((rd_T34 l0 x8_1).f0).length:Int) then 30 else (((rd_T34 l0 x8_1).f0).length:Int))=ji6:=hji6
        by_cases c7:0<=(ji6)
        ·rw [if_pos c7] at H
         have c7b0:=eq_true c7
         have c7b1:decide (0<=(ji6))=true:=decide_eq_true c7
         clear c7
         by_cases c8:(ji6)<=(((rd_T34 l0 x8_1).f0).length:Int)
         ·rw [if_pos c8] at H
          have c8b0:=eq_true c8
          have c8b1:decide ((ji6)<=(((rd_T34 l0 x8_1).f0).length:Int))=true:=decide_eq_true c8
          clear c8
          obtain ⟨y103,hy103⟩ : ∃y_:List Int,y_=(((rd_T34 l0 x8_1).f0).take ((ji6):Int).toNat):=⟨_,rfl⟩
          replace H:(if 0<=(mn (((rd_T34 l0 x8_1).f1).length:Int) 100) then (if (mn (((rd_T34 l0 x8_1).f1).length:Int) 100)<=(((rd_T34 l0 x8_1).f1).length:Int) then (if x3_1.length<2513169434916 then (annalslaw10_few.l0 k1 (x3_1++[(⟨y103,(((rd_T34 l0 x8_1).f1).take ((mn (((rd_T34 l0 x8_1).f1).length:Int) 100):Int).toNat),(rd_T34 l0 x8_1).f2⟩:S34)]) l0 (l0.length:Int) (wrap64 (x8_1+1))) else (none)) else (none)) else (none))=some r:=by first|(rw [hy103];with_reducible exact H)|(have H2_:=(Option.bind_some _ _).symm.trans H;rw [hy103];with_reducible exact H2_)|(have H2_:=(Option.bind_some _ _).symm.trans H;with_reducible exact H2_)|with_reducible exact H|(rw [hy103];exact H)|exact H
          have Ny103:=z_ hy103
          clear hy103
          obtain ⟨ji9,hji9⟩ : ∃j_:Int,(mn (((rd_T34 l0 x8_1).f1).length:Int) 100)=j_:=⟨_,rfl⟩
          replace H:(if 0<=(ji9) then (if (ji9)<=(((rd_T34 l0 x8_1).f1).length:Int) then (if x3_1.length<2513169434916 then (annalslaw10_few.l0 k1 (x3_1++[(⟨y103,(((rd_T34 l0 x8_1).f1).take ((ji9):Int).toNat),(rd_T34 l0 x8_1).f2⟩:S34)]) l0 (l0.length:Int) (wrap64 (x8_1+1))) else (none)) else (none)) else (none))=some r:=by first|(rw [hji9] at H;exact H)|(simp only [hji9] at H ⊢;exact H)
          have hji9_:(if 100<(((rd_T34 l0 x8_1).f1).length:Int) then 100 else (((rd_T34 l0 x8_1).f1).length:Int))=ji9:=hji9
          by_cases c10:0<=(ji9)
          ·rw [if_pos c10] at H
           have c10b0:=eq_true c10
           have c10b1:decide (0<=(ji9))=true:=decide_eq_true c10
           clear c10
           by_cases c11:(ji9)<=(((rd_T34 l0 x8_1).f1).length:Int)
           ·rw [if_pos c11] at H
            have c11b0:=eq_true c11
            have c11b1:decide ((ji9)<=(((rd_T34 l0 x8_1).f1).length:Int))=true:=decide_eq_true c11
            clear c11
            obtain ⟨y108,hy108⟩ : ∃y_:List Int,y_=(((rd_T34 l0 x8_1).f1).take ((ji9):Int).toNat):=⟨_,rfl⟩
            replace H:(if x3_1.length<2513169434916 then (annalslaw10_few.l0 k1 (x3_1++[(⟨y103,y108,(rd_T34 l0 x8_1).f2⟩:S34)]) l0 (l0.length:Int) (wrap64 (x8_1+1))) else (none))=some r:=by first|(rw [hy108];with_reducible exact H)|(have H2_:=(Option.bind_some _ _).symm.trans H;rw [hy108];with_reducible exact H2_)|(have H2_:=(Option.bind_some _ _).symm.trans H;with_reducible exact H2_)|with_reducible exact H|(rw [hy108];exact H)|exact H
            have Ny108:=z_ hy108
            clear hy108
            by_cases c12:x3_1.length<2513169434916
            ·rw [if_pos c12] at H
             have LMc12:=z_ c12
             clear c12
             obtain ⟨y113,hy113⟩ : ∃y_:List (S34),y_=(x3_1++[(⟨y103,y108,(rd_T34 l0 x8_1).f2⟩:S34)]):=⟨_,rfl⟩
             replace H:(annalslaw10_few.l0 k1 y113 l0 (l0.length:Int) (wrap64 (x8_1+1)))=some r:=by first|(rw [hy113];with_reducible exact H)|(have H2_:=(Option.bind_some _ _).symm.trans H;rw [hy113];with_reducible exact H2_)|(have H2_:=(Option.bind_some _ _).symm.trans H;with_reducible exact H2_)|with_reducible exact H|(rw [hy113];exact H)|exact H
             have Ny113:=z_ hy113
             clear hy113
             have H':=z_ H
             clear H
             have p101:0<=(x8_1:Int):=of_decide_eq_true (by first|(with_reducible assumption)|assumption)
             have q101:x8_1<(l0.length:Int):=of_decide_eq_true (by first|(with_reducible assumption)|assumption)
             obtain ⟨ad101,A101_0,c101_0,A101_1,c101_1,e101,hx101_0,hx101_1,hx101_2,hl101_0,hi101_0,hl101_1,hi101_1⟩:=at_T34 (Kd.V_reads' HO_6.out).2.2 x8_1 p101 q101
             cases e101
             obtain ⟨ce101,hce101,hMe101,hcc101⟩:=Kd.V_get HO_6.out z34 x8_1 p101 (by first|exact q101|exact of_decide_eq_true (by first|(with_reducible assumption)|assumption)|(have e_:=(Kd.V_reads' HO_6.out).1;omega))
             obtain ⟨ua101_0,uc101_0,ua101_1,uc101_1,rfl,ul101_0,ge101_0,ul101_1,ge101_1⟩:=k34_openF hMe101
             have hv101_0:=hcc101 0 _ rfl
             rw [Nat.add_zero] at hv101_0
             replace hv101_0:=Option.some.inj (hv101_0.symm.trans hx101_0)
             injection hv101_0 with hva_ hvn_ hvc_
             rw [hva_] at ge101_0
             rw [hvc_] at ul101_0
             have HL101_0:=z_ (show Kd.V (Kd.int .u8) 5 _ w.heap.size _ _ ((rd_T34 l0 x8_1).f0) from Kd.V_mk ul101_0 ge101_0)
             clear hva_ hvn_ hvc_ ge101_0 ul101_0
             have hv101_1:=hcc101 1 _ rfl
             rw [add_field _ _ 1 (by omega)] at hv101_1
             replace hv101_1:=Option.some.inj (hv101_1.symm.trans hx101_1)
             injection hv101_1 with hva_ hvn_ hvc_
             rw [hva_] at ge101_1
             rw [hvc_] at ul101_1
             have HL101_1:=z_ (show Kd.V (Kd.int .u8) 5 _ w.heap.size _ _ ((rd_T34 l0 x8_1).f1) from Kd.V_mk ul101_1 ge101_1)
             clear hva_ hvn_ hvc_ ge101_1 ul101_1
             clear hcc101 hce101
             have HR101_0:=z_ hi101_0
             have HC101_0:=z_ hl101_0
             clear hi101_0 hl101_0
             have HR101_1:=z_ hi101_1
             have HC101_1:=z_ hl101_1
             clear hi101_1 hl101_1
             replace p101:=eq_true p101
             replace q101:=eq_true q101
             try go_wp2_with (first|((with_reducible refine gate_dst (N:=5) rfl ?_);refine box_event ?hg (N:=5) ?hd (cs:=#[.slice none 0 0,.slice none 0 0,.int .i64 0]) (t:=34) ?hr ?_;(case hd=>rfl);(case hg=>rfl);(case hr=>first|(go_simp;done)|(go_simp;rfl));intro gb102 hg w13 hbox hb;have n0_:=z_ (Kd.N_below (Kd.N_elderB (by (with_reducible repeat (first|apply Kd.N_alloc|apply Kd.N_drewN|apply Kd.N_drew));exact HO_3.out) gb102 (Nat.le_of_eq hg.symm)) hb);have n1_:=z_ (Kd.V_below (Kd.V_elderB (by (with_reducible repeat (first|apply Kd.V_alloc|apply Kd.V_drewN|apply Kd.V_drew));exact HO_6.out) gb102 (Nat.le_of_eq hg.symm)) hb);have n2_:=z_ (Kd.V_below (Kd.V_elderB (by (with_reducible repeat (first|apply Kd.V_alloc|apply Kd.V_drewN|apply Kd.V_drew));exact HL101_0.out) gb102 (Nat.le_of_eq hg.symm)) hb);have n3_:=z_ (Kd.V_below (Kd.V_elderB (by (with_reducible repeat (first|apply Kd.V_alloc|apply Kd.V_drewN|apply Kd.V_drew));exact HL101_1.out) gb102 (Nat.le_of_eq hg.symm)) hb);have n4_:=z_ (Kd.C_below (by repeat (first|(with_reducible exact HR101_0.out)|(with_reducible refine Kd.C_alloc ?_ _)|(with_reducible refine Kd.C_drewN ?_ _)|(with_reducible refine Kd.C_drew ?_)|exact HR101_0.out)) hb);have n5_:=z_ (Kd.C_below (by repeat (first|(with_reducible exact HR101_1.out)|(with_reducible refine Kd.C_alloc ?_ _)|(with_reducible refine Kd.C_drewN ?_ _)|(with_reducible refine Kd.C_drew ?_)|exact HR101_1.out)) hb);have n6_:=z_ (below_step (by repeat (first|(with_reducible first|exact HB.out|apply below_alloc|apply pw_below_drewN|apply below_drew1)|exact HB.out)) hb);have n7_:=z_ (hbox);have n8_:=z_ ((by rw [hg];exact (below_size (by repeat (first|(with_reducible first|exact HB.out|apply below_alloc|apply pw_below_drewN|apply below_drew1)|exact HB.out))):w.heap.size<=gb102));have n9_:=z_ ((by rw [hg];exact (below_size (by repeat (first|(with_reducible first|exact HB.out|apply below_alloc|apply pw_below_drewN|apply below_drew1)|exact HB.out))):w.heap.size<=gb102));clear HO_3;clear HO_6;clear HL101_0;clear HL101_1;clear HR101_0;clear HR101_1;clear HB;have HO_3:=n0_;have HO_6:=n1_;have HL101_0:=n2_;have HL101_1:=n3_;have HR101_0:=n4_;have HR101_1:=n5_;have HB:=n6_;have BK102:=n7_;have GW102:=n8_;have GE102:=n9_;clear n0_ n1_ n2_ n3_ n4_ n5_ n6_ n7_ n8_ n9_;clear hb hbox hg;have hcz14_0:w13.cell? ⟨gb102,0,none⟩=some (.slice none 0 0):=(blk_cell BK102.out 0).trans rfl;have hcz14_1:w13.cell? ⟨gb102,1,none⟩=some (.slice none 0 0):=(blk_cell BK102.out 1).trans rfl;have hcz14_2:w13.cell? ⟨gb102,2,none⟩=some (.int .i64 0):=(blk_cell BK102.out 2).trans rfl;have hfz14_0:=blk_frozen BK102.out 0;have hfz14_1:=blk_frozen BK102.out 1;have hfz14_2:=blk_frozen BK102.out 2))
             have n0_:Aside0 (Kd.N k34 34 (((w13.setCell ⟨gb102,0,none⟩ (.slice A101_0 ((rd_T34 l0 x8_1).f0).length c101_0)).setCell ⟨gb102,1,none⟩ (.slice A101_1 ((rd_T34 l0 x8_1).f1).length c101_1)).setCell ⟨gb102,2,none⟩ (.int .i64 ((rd_T34 l0 x8_1).f2))) w.heap.size (fun k_=>(P0_ k_\/w.heap.size<=k_)/\k_≠gb102) u3 x3_1):=⟨by (with_reducible repeat (first|apply Kd.N_alloc|apply Kd.N_drewN|apply Kd.N_drew));exact Kd.N_mono (Kd.N_far (p:=⟨gb102,2,none⟩) (Kd.N_far (p:=⟨gb102,1,none⟩) (Kd.N_far (p:=⟨gb102,0,none⟩) (Kd.N_mono HO_3.out (fun k_ hk=>(⟨hk,hk.2⟩:_/\k_≠gb102))) (fun _ hk=>hk.2) (.slice A101_0 ((rd_T34 l0 x8_1).f0).length c101_0)) (fun _ hk=>hk.2) (.slice A101_1 ((rd_T34 l0 x8_1).f1).length c101_1)) (fun _ hk=>hk.2) (.int .i64 ((rd_T34 l0 x8_1).f2))) (fun _ hk=>⟨hk.1.1,hk.1.2⟩)⟩
             have n1_:Aside0 (Kd.V k34 34 (((w13.setCell ⟨gb102,0,none⟩ (.slice A101_0 ((rd_T34 l0 x8_1).f0).length c101_0)).setCell ⟨gb102,1,none⟩ (.slice A101_1 ((rd_T34 l0 x8_1).f1).length c101_1)).setCell ⟨gb102,2,none⟩ (.int .i64 ((rd_T34 l0 x8_1).f2))) w.heap.size (fun k_=>(P0_ k_\/w.heap.size<=k_)/\some k_≠(u3:Value).ownBlock/\k_≠gb102) (.slice (some ad101) l0.length c0) l0):=⟨by (with_reducible repeat (first|apply Kd.V_alloc|apply Kd.V_drewN|apply Kd.V_drew));exact Kd.V_mono (Kd.V_far (p:=⟨gb102,2,none⟩) (Kd.V_far (p:=⟨gb102,1,none⟩) (Kd.V_far (p:=⟨gb102,0,none⟩) (Kd.V_mono HO_6.out (fun k_ hk=>(⟨hk,hk.2⟩:_/\k_≠gb102))) (fun _ hk=>hk.2) (.slice A101_0 ((rd_T34 l0 x8_1).f0).length c101_0)) (fun _ hk=>hk.2) (.slice A101_1 ((rd_T34 l0 x8_1).f1).length c101_1)) (fun _ hk=>hk.2) (.int .i64 ((rd_T34 l0 x8_1).f2))) (fun _ hk=>⟨hk.1.1.1,⟨hk.1.1.2,hk.1.2⟩⟩)⟩
             have n2_:Aside0 (Kd.V (Kd.int .u8) 5 (((w13.setCell ⟨gb102,0,none⟩ (.slice A101_0 ((rd_T34 l0 x8_1).f0).length c101_0)).setCell ⟨gb102,1,none⟩ (.slice A101_1 ((rd_T34 l0 x8_1).f1).length c101_1)).setCell ⟨gb102,2,none⟩ (.int .i64 ((rd_T34 l0 x8_1).f2))) w.heap.size (fun k_=>(P0_ k_\/w.heap.size<=k_)/\some k_≠(u3:Value).ownBlock/\k_≠gb102) (.slice A101_0 ((rd_T34 l0 x8_1).f0).length c101_0) ((rd_T34 l0 x8_1).f0)):=⟨by (with_reducible repeat (first|apply Kd.V_alloc|apply Kd.V_drewN|apply Kd.V_drew));exact Kd.V_mono (Kd.V_far (p:=⟨gb102,2,none⟩) (Kd.V_far (p:=⟨gb102,1,none⟩) (Kd.V_far (p:=⟨gb102,0,none⟩) (Kd.V_mono HL101_0.out (fun k_ hk=>(⟨hk,hk.2⟩:_/\k_≠gb102))) (fun _ hk=>hk.2) (.slice A101_0 ((rd_T34 l0 x8_1).f0).length c101_0)) (fun _ hk=>hk.2) (.slice A101_1 ((rd_T34 l0 x8_1).f1).length c101_1)) (fun _ hk=>hk.2) (.int .i64 ((rd_T34 l0 x8_1).f2))) (fun _ hk=>⟨hk.1.1.1,⟨hk.1.1.2,hk.1.2⟩⟩)⟩
             have n3_:Aside0 (Kd.V (Kd.int .u8) 5 (((w13.setCell ⟨gb102,0,none⟩ (.slice A101_0 ((rd_T34 l0 x8_1).f0).length c101_0)).setCell ⟨gb102,1,none⟩ (.slice A101_1 ((rd_T34 l0 x8_1).f1).length c101_1)).setCell ⟨gb102,2,none⟩ (.int .i64 ((rd_T34 l0 x8_1).f2))) w.heap.size (fun k_=>(P0_ k_\/w.heap.size<=k_)/\some k_≠(u3:Value).ownBlock/\k_≠gb102) (.slice A101_1 ((rd_T34 l0 x8_1).f1).length c101_1) ((rd_T34 l0 x8_1).f1)):=⟨by (with_reducible repeat (first|apply Kd.V_alloc|apply Kd.V_drewN|apply Kd.V_drew));exact Kd.V_mono (Kd.V_far (p:=⟨gb102,2,none⟩) (Kd.V_far (p:=⟨gb102,1,none⟩) (Kd.V_far (p:=⟨gb102,0,none⟩) (Kd.V_mono HL101_1.out (fun k_ hk=>(⟨hk,hk.2⟩:_/\k_≠gb102))) (fun _ hk=>hk.2) (.slice A101_0 ((rd_T34 l0 x8_1).f0).length c101_0)) (fun _ hk=>hk.2) (.slice A101_1 ((rd_T34 l0 x8_1).f1).length c101_1)) (fun _ hk=>hk.2) (.int .i64 ((rd_T34 l0 x8_1).f2))) (fun _ hk=>⟨hk.1.1.1,⟨hk.1.1.2,hk.1.2⟩⟩)⟩
             have n4_:Aside0 ((((w13.setCell ⟨gb102,0,none⟩ (.slice A101_0 ((rd_T34 l0 x8_1).f0).length c101_0)).setCell ⟨gb102,1,none⟩ (.slice A101_1 ((rd_T34 l0 x8_1).f1).length c101_1)).setCell ⟨gb102,2,none⟩ (.int .i64 ((rd_T34 l0 x8_1).f2))).heap[gb102]? = some (.cells #[.slice A101_0 ((rd_T34 l0 x8_1).f0).length c101_0,.slice A101_1 ((rd_T34 l0 x8_1).f1).length c101_1,.int .i64 ((rd_T34 l0 x8_1).f2)] 34 (0,0))):=⟨by (with_reducible repeat (first|refine blk_drewN ?_ _|refine blk_drew ?_|refine blk_alloc ?_ _));refine blk_put (cs:=#[.slice A101_0 ((rd_T34 l0 x8_1).f0).length c101_0,.slice A101_1 ((rd_T34 l0 x8_1).f1).length c101_1,.int .i64 0]) ?_ 2 _ rfl;(with_reducible repeat (first|refine blk_drewN ?_ _|refine blk_drew ?_|refine blk_alloc ?_ _));refine blk_put (cs:=#[.slice A101_0 ((rd_T34 l0 x8_1).f0).length c101_0,.slice none 0 0,.int .i64 0]) ?_ 1 _ rfl;(with_reducible repeat (first|refine blk_drewN ?_ _|refine blk_drew ?_|refine blk_alloc ?_ _));refine blk_put (cs:=#[.slice none 0 0,.slice none 0 0,.int .i64 0]) ?_ 0 _ rfl;(with_reducible repeat (first|refine blk_drewN ?_ _|refine blk_drew ?_|refine blk_alloc ?_ _));exact BK102.out⟩
             have n5_:Aside0 (Below w.heap.size w (((w13.setCell ⟨gb102,0,none⟩ (.slice A101_0 ((rd_T34 l0 x8_1).f0).length c101_0)).setCell ⟨gb102,1,none⟩ (.slice A101_1 ((rd_T34 l0 x8_1).f1).length c101_1)).setCell ⟨gb102,2,none⟩ (.int .i64 ((rd_T34 l0 x8_1).f2)))):=⟨by repeat (first|(with_reducible first|exact HB.out|apply below_alloc|apply pw_below_drewN|apply below_drew1|refine below_set ?_ GE102.out)|exact HB.out)⟩
             (try clear HO_3)
             (try clear HO_6)
             (try clear HL101_0)
             (try clear HL101_1)
             (try clear BK102)
             (try clear HB)
             generalize (((w13.setCell ⟨gb102,0,none⟩ (.slice A101_0 ((rd_T34 l0 x8_1).f0).length c101_0)).setCell ⟨gb102,1,none⟩ (.slice A101_1 ((rd_T34 l0 x8_1).f1).length c101_1)).setCell ⟨gb102,2,none⟩ (.int .i64 ((rd_T34 l0 x8_1).f2)))=w15 at n0_ n1_ n2_ n3_ n4_ n5_ ⊢
             have HO_3:=n0_
             have HO_6:=n1_
             have HL101_0:=n2_
             have HL101_1:=n3_
             have BK102:=n4_
             have HB:=n5_
             clear n0_ n1_ n2_ n3_ n4_ n5_
             have n0_:=z_ (Kd.N_drew HO_3.out)
             have n1_:=z_ (Kd.V_drew HO_6.out)
             have n2_:=z_ (Kd.V_drew HL101_0.out)
             have n3_:=z_ (Kd.V_drew HL101_1.out)
             have n4_:=z_ (blk_drew BK102.out)
             have n5_:=z_ (below_drew1 HB.out)
             clear HO_3
             clear HO_6
             clear HL101_0
             clear HL101_1
             clear BK102
             clear HB
             have HO_3:=n0_
             have HO_6:=n1_
             have HL101_0:=n2_
             have HL101_1:=n3_
             have BK102:=n4_
             have HB:=n5_
             clear n0_ n1_ n2_ n3_ n4_ n5_
             have q17:((ji6):Int)<=((((rd_T34 l0 x8_1).f0).length:Int):Int):=of_decide_eq_true (by first|(with_reducible assumption)|assumption)
             obtain ⟨i017,hi017,_,hsz17,_⟩:=info_parts info5
             have hroom17:((rd_T34 l0 x8_1).f0).length<=c101_0:=HC101_0.out
             have hC17:Kd.F (Kd.int .u8) _ _ A101_0 ((rd_T34 l0 x8_1).f0).length ((rd_T34 l0 x8_1).f0):=(Kd.V_at (base:=w.heap.size) HL101_0.out).2.2
             have hcut17:=cut_to (P:=Tryz.prog) 23 5 .i64 Tryz.underlying23 hi017 A101_0 ((rd_T34 l0 x8_1).f0).length c101_0 (ji6) (of_decide_eq_true (by first|(with_reducible assumption)|assumption)) q17 hroom17
             have hr17:=Kd.F_take (m:=((ji6):Int).toNat) hC17 (by omega)
             have hy17:y103.length=((ji6):Int).toNat:=(by rw [Ny103.out,List.length_take];omega)
             rw [<-Ny103.out] at hr17
             rw [<-hy17] at hcut17
             have HO107:=z_ (show Kd.V (Kd.int .u8) 5 _ w.heap.size _ (.slice A101_0 y103.length c101_0) y103 from Kd.V_mk (by omega) hr17)
             have HC107:=z_ (show y103.length<=c101_0 from by omega)
             clear hr17 hC17 hroom17 hi017 hsz17
             have KY17:=z_ hy17
             clear hy17
             replace q17:=eq_true q17
             have q18:((ji9):Int)<=((((rd_T34 l0 x8_1).f1).length:Int):Int):=of_decide_eq_true (by first|(with_reducible assumption)|assumption)
             obtain ⟨i018,hi018,_,hsz18,_⟩:=info_parts info5
             have hroom18:((rd_T34 l0 x8_1).f1).length<=c101_1:=HC101_1.out
             have hC18:Kd.F (Kd.int .u8) _ _ A101_1 ((rd_T34 l0 x8_1).f1).length ((rd_T34 l0 x8_1).f1):=(Kd.V_at (base:=w.heap.size) HL101_1.out).2.2
             have hcut18:=cut_to (P:=Tryz.prog) 23 5 .i64 Tryz.underlying23 hi018 A101_1 ((rd_T34 l0 x8_1).f1).length c101_1 (ji9) (of_decide_eq_true (by first|(with_reducible assumption)|assumption)) q18 hroom18
             have hr18:=Kd.F_take (m:=((ji9):Int).toNat) hC18 (by omega)
             have hy18:y108.length=((ji9):Int).toNat:=(by rw [Ny108.out,List.length_take];omega)
             rw [<-Ny108.out] at hr18
             rw [<-hy18] at hcut18
             have HO112:=z_ (show Kd.V (Kd.int .u8) 5 _ w.heap.size _ (.slice A101_1 y108.length c101_1) y108 from Kd.V_mk (by omega) hr18)
             have HC112:=z_ (show y108.length<=c101_1 from by omega)
             clear hr18 hC18 hroom18 hi018 hsz18
             have KY18:=z_ hy18
             clear hy18
             replace q18:=eq_true q18
             refine start_ (n:=18) (S:=fun w'=>w'.cell? ⟨gb102,0,none⟩=some (.slice A101_0 ((rd_T34 l0 x8_1).f0).length c101_0)/\w'.cell? ⟨gb102,1,none⟩=some (.slice A101_1 ((rd_T34 l0 x8_1).f1).length c101_1)/\w'.cell? ⟨gb102,2,none⟩=some (.int .i64 ((rd_T34 l0 x8_1).f2))) (ds:=[15,17]) (bt_ 18 0) (by kernel_rfl) rfl rfl ⟨(blk_cell BK102.out 0).trans rfl,(blk_cell BK102.out 1).trans rfl,(blk_cell BK102.out 2).trans rfl⟩ (fun hHeld=>?_);refine with_tabW annalslaw10_few.tab6 annalslaw10_few.bits6 (fun HT_ HW_=>?_)
             generalize w15.drew=w16 at HO_3 HO_6 HL101_0 HL101_1 BK102 HB HO107 HO112 hHeld ⊢
             refine pure_ (i:=0) (N:=some 15) (v:=?_) (a':=?_) (bt_ 18 1) rfl rfl (any_of HT_.out (by kernel_rfl)) (fun _ _ _ h=>h) (Or.inl ⟨by rfl,?_⟩) ?_ ?_
             rotate_left
             ·intro w'
              go_simp
              with_reducible rfl
             rotate_left
             ·simp only [pq_]
              rfl
             refine pure_ (i:=2) (N:=some 17) (v:=?_) (a':=?_) (bt_ 18 5) rfl rfl (any_of HT_.out (by kernel_rfl)) (fun _ _ _ h=>h) (Or.inl ⟨by rfl,?_⟩) ?_ ?_
             rotate_left
             ·intro w'
              go_simp
              with_reducible rfl
             rotate_left
             ·simp only [pq_]
              rfl
             refine pure_ (i:=7) (N:=some 22) (v:=?_) (a':=?_) (bt_ 18 133) rfl rfl (any_of HT_.out (by kernel_rfl)) (fun _ _ _ h=>h) (Or.inl ⟨by rfl,?_⟩) ?_ ?_
             rotate_left
             ·intro w'
              go_simp
              with_reducible rfl
             rotate_left
             ·simp only [pq_]
              rfl
             refine pure_ (i:=9) (N:=some 24) (v:=?_) (a':=?_) (bt_ 18 645) rfl rfl (any_of HT_.out (by kernel_rfl)) (fun _ _ _ h=>h) (Or.inl ⟨by rfl,?_⟩) ?_ ?_
             rotate_left
             ·intro w'
              go_simp
              with_reducible rfl
             rotate_left
             ·simp only [pq_]
              rfl
             refine take_ (i:=1) (N:=some 16) (v:=?_) (a':=?_) (bt_ 18 647) rfl rfl (take_ofW HT_.out HW_.out (by kernel_rfl)) (fun _ _ _ h=>h) (Or.inl ⟨by rfl,?_⟩) hHeld ?_ ?_
             rotate_left
             ·rintro w' ⟨s0,s1,s2⟩
              go_simp
              with_reducible rfl
             rotate_left
             ·simp only [pq_]
              rfl
             refine take_ (i:=3) (N:=some 18) (v:=?_) (a':=?_) (bt_ 18 655) rfl rfl (take_ofW HT_.out HW_.out (by kernel_rfl)) (fun _ _ _ h=>h) (Or.inl ⟨by rfl,?_⟩) hHeld ?_ ?_
             rotate_left
             ·rintro w' ⟨s0,s1,s2⟩
              go_simp
              with_reducible rfl
             rotate_left
             ·simp only [pq_]
              rfl
             refine pure_ (i:=4) (N:=some 19) (v:=?_) (a':=?_) (bt_ 18 671) rfl rfl (any_of HT_.out (by kernel_rfl)) (fun _ _ _ h=>h) (Or.inl ⟨by rfl,?_⟩) ?_ ?_
             rotate_left
             ·intro w'
              go_simp
              with_reducible rfl
             rotate_left
             ·simp only [pq_]
              rfl
             refine pure_ (i:=5) (N:=some 20) (v:=?_) (a':=?_) (bt_ 18 703) rfl rfl (any_of HT_.out (by kernel_rfl)) (fun _ _ _ h=>h) (Or.inl ⟨by rfl,?_⟩) ?_ ?_
             rotate_left
             ·intro w'
              go_simp
              with_reducible rfl
             rotate_left
             ·simp only [pq_]
              rfl
             refine pure_ (i:=6) (N:=some 21) (v:=?_) (a':=?_) (bt_ 18 767) rfl rfl (any_of HT_.out (by kernel_rfl)) (fun _ _ _ h=>h) (Or.inl ⟨by rfl,?_⟩) ?_ ?_
             rotate_left
             ·intro w'
              go_simp
              with_reducible rfl
             rotate_left
             ·simp only [pq_]
              rfl
             refine take_ (i:=8) (N:=some 23) (v:=?_) (a':=?_) (bt_ 18 1023) rfl rfl (take_ofW HT_.out HW_.out (by kernel_rfl)) (fun _ _ _ h=>h) (Or.inl ⟨by rfl,?_⟩) hHeld ?_ ?_
             rotate_left
             ·rintro w' ⟨s0,s1,s2⟩
              go_simp
              with_reducible rfl
             rotate_left
             ·simp only [pq_]
              rfl
             refine take_ (i:=10) (N:=some 25) (v:=?_) (a':=?_) (bt_ 18 2047) rfl rfl (take_ofW HT_.out HW_.out (by kernel_rfl)) (fun _ _ _ h=>h) (Or.inl ⟨by rfl,?_⟩) hHeld ?_ ?_
             rotate_left
             ·rintro w' ⟨s0,s1,s2⟩
              go_simp
              with_reducible rfl
             rotate_left
             ·simp only [pq_]
              rfl
             refine pure_ (i:=11) (N:=some 26) (v:=?_) (a':=?_) (bt_ 18 4095) rfl rfl (any_of HT_.out (by kernel_rfl)) (fun _ _ _ h=>h) (Or.inl ⟨by rfl,?_⟩) ?_ ?_
             rotate_left
             ·intro w'
              go_simp
              with_reducible rfl
             rotate_left
             ·simp only [pq_]
              rfl
             refine pure_ (i:=12) (N:=some 27) (v:=?_) (a':=?_) (bt_ 18 8191) rfl rfl (any_of HT_.out (by kernel_rfl)) (fun _ _ _ h=>h) (Or.inl ⟨by rfl,?_⟩) ?_ ?_
             rotate_left
             ·intro w'
              go_simp
              with_reducible rfl
             rotate_left
             ·simp only [pq_]
              rfl
             refine pure_ (i:=13) (N:=some 28) (v:=?_) (a':=?_) (bt_ 18 16383) rfl rfl (any_of HT_.out (by kernel_rfl)) (fun _ _ _ h=>h) (Or.inl ⟨by rfl,?_⟩) ?_ ?_
             rotate_left
             ·intro w'
              go_simp
              with_reducible rfl
             rotate_left
             ·simp only [pq_]
              rfl
             refine pure_ (i:=14) (N:=some 29) (v:=?_) (a':=?_) (bt_ 18 32767) rfl rfl (any_of HT_.out (by kernel_rfl)) (fun _ _ _ h=>h) (Or.inl ⟨by rfl,?_⟩) ?_ ?_
             rotate_left
             ·intro w'
              go_simp
              with_reducible rfl
             rotate_left
             ·simp only [pq_]
              rfl
             refine last_ (i:=15) (N:=none) (bt_ 18 65535) rfl rfl (one_of HT_.out (by kernel_rfl)) (by decide) (fun K hK=>?_)
             have hs19:w16.cell? ⟨gb102,0,none⟩=some (.slice A101_0 ((rd_T34 l0 x8_1).f0).length c101_0):=(blk_cell BK102.out 0).trans rfl
             have hfs19:=blk_frozen BK102.out 0
             refine skip_ (w1:=?_) (by rfl) rfl ?_ ?_
             rotate_left
             ·go_simp
              rfl
             refine hK.out _ _ ?_
             clear hK K
             refine pure_ (i:=16) (N:=some 30) (v:=?_) (a':=?_) (bt_ 18 131071) rfl rfl (any_of HT_.out (by kernel_rfl)) (fun _ _ _ h=>h) (Or.inl ⟨by rfl,?_⟩) ?_ ?_
             rotate_left
             ·intro w'
              go_simp
              with_reducible rfl
             rotate_left
             ·simp only [pq_]
              rfl
             refine last_ (i:=17) (N:=none) (bt_ 18 262143) rfl rfl (one_of HT_.out (by kernel_rfl)) (by decide) (fun K hK=>?_)
             have hs20:w16.cell? ⟨gb102,1,none⟩=some (.slice A101_1 ((rd_T34 l0 x8_1).f1).length c101_1):=(blk_cell BK102.out 1).trans rfl
             have hfs20:=blk_frozen BK102.out 1
             refine skip_ (w1:=?_) (by rfl) rfl ?_ ?_
             rotate_left
             ·go_simp
              rfl
             refine hK.out _ _ ?_
             clear hK K
             refine done_ (done_of HT_.out (by kernel_rfl)) ?_
             have n0_:Aside0 (Kd.N k34 34 ((w16.setCell ⟨gb102,0,none⟩ (.slice A101_0 y103.length c101_0)).setCell ⟨gb102,1,none⟩ (.slice A101_1 y108.length c101_1)) w.heap.size (fun k_=>(P0_ k_\/w.heap.size<=k_)/\k_≠gb102) u3 x3_1):=⟨by (with_reducible repeat (first|apply Kd.N_alloc|apply Kd.N_drewN|apply Kd.N_drew));exact Kd.N_mono (Kd.N_far (p:=⟨gb102,1,none⟩) (Kd.N_far (p:=⟨gb102,0,none⟩) (Kd.N_mono HO_3.out (fun k_ hk=>(⟨hk,hk.2⟩:_/\k_≠gb102))) (fun _ hk=>hk.2) (.slice A101_0 y103.length c101_0)) (fun _ hk=>hk.2) (.slice A101_1 y108.length c101_1)) (fun _ hk=>⟨hk.1.1,hk.1.2⟩)⟩
             have n1_:Aside0 (Kd.V k34 34 ((w16.setCell ⟨gb102,0,none⟩ (.slice A101_0 y103.length c101_0)).setCell ⟨gb102,1,none⟩ (.slice A101_1 y108.length c101_1)) w.heap.size (fun k_=>(P0_ k_\/w.heap.size<=k_)/\some k_≠(u3:Value).ownBlock/\k_≠gb102) (.slice (some ad101) l0.length c0) l0):=⟨by (with_reducible repeat (first|apply Kd.V_alloc|apply Kd.V_drewN|apply Kd.V_drew));exact Kd.V_mono (Kd.V_far (p:=⟨gb102,1,none⟩) (Kd.V_far (p:=⟨gb102,0,none⟩) (Kd.V_mono HO_6.out (fun k_ hk=>(⟨hk,hk.2.2⟩:_/\k_≠gb102))) (fun _ hk=>hk.2) (.slice A101_0 y103.length c101_0)) (fun _ hk=>hk.2) (.slice A101_1 y108.length c101_1)) (fun _ hk=>⟨hk.1.1,⟨hk.1.2.1,hk.1.2.2⟩⟩)⟩
             have n2_:Aside0 (Kd.V (Kd.int .u8) 5 ((w16.setCell ⟨gb102,0,none⟩ (.slice A101_0 y103.length c101_0)).setCell ⟨gb102,1,none⟩ (.slice A101_1 y108.length c101_1)) w.heap.size (fun k_=>(P0_ k_\/w.heap.size<=k_)/\some k_≠(u3:Value).ownBlock/\k_≠gb102) (.slice A101_0 ((rd_T34 l0 x8_1).f0).length c101_0) ((rd_T34 l0 x8_1).f0)):=⟨by (with_reducible repeat (first|apply Kd.V_alloc|apply Kd.V_drewN|apply Kd.V_drew));exact Kd.V_mono (Kd.V_far (p:=⟨gb102,1,none⟩) (Kd.V_far (p:=⟨gb102,0,none⟩) (Kd.V_mono HL101_0.out (fun k_ hk=>(⟨hk,hk.2.2⟩:_/\k_≠gb102))) (fun _ hk=>hk.2) (.slice A101_0 y103.length c101_0)) (fun _ hk=>hk.2) (.slice A101_1 y108.length c101_1)) (fun _ hk=>⟨hk.1.1,⟨hk.1.2.1,hk.1.2.2⟩⟩)⟩
             have n3_:Aside0 (Kd.V (Kd.int .u8) 5 ((w16.setCell ⟨gb102,0,none⟩ (.slice A101_0 y103.length c101_0)).setCell ⟨gb102,1,none⟩ (.slice A101_1 y108.length c101_1)) w.heap.size (fun k_=>(P0_ k_\/w.heap.size<=k_)/\some k_≠(u3:Value).ownBlock/\k_≠gb102) (.slice A101_1 ((rd_T34 l0 x8_1).f1).length c101_1) ((rd_T34 l0 x8_1).f1)):=⟨by (with_reducible repeat (first|apply Kd.V_alloc|apply Kd.V_drewN|apply Kd.V_drew));exact Kd.V_mono (Kd.V_far (p:=⟨gb102,1,none⟩) (Kd.V_far (p:=⟨gb102,0,none⟩) (Kd.V_mono HL101_1.out (fun k_ hk=>(⟨hk,hk.2.2⟩:_/\k_≠gb102))) (fun _ hk=>hk.2) (.slice A101_0 y103.length c101_0)) (fun _ hk=>hk.2) (.slice A101_1 y108.length c101_1)) (fun _ hk=>⟨hk.1.1,⟨hk.1.2.1,hk.1.2.2⟩⟩)⟩
             have n4_:Aside0 (Kd.V (Kd.int .u8) 5 ((w16.setCell ⟨gb102,0,none⟩ (.slice A101_0 y103.length c101_0)).setCell ⟨gb102,1,none⟩ (.slice A101_1 y108.length c101_1)) w.heap.size (fun k_=>(P0_ k_\/w.heap.size<=k_)/\some k_≠(u3:Value).ownBlock/\k_≠gb102) (.slice A101_0 y103.length c101_0) y103):=⟨by (with_reducible repeat (first|apply Kd.V_alloc|apply Kd.V_drewN|apply Kd.V_drew));exact Kd.V_mono (Kd.V_far (p:=⟨gb102,1,none⟩) (Kd.V_far (p:=⟨gb102,0,none⟩) (Kd.V_mono HO107.out (fun k_ hk=>(⟨hk,hk.2.2⟩:_/\k_≠gb102))) (fun _ hk=>hk.2) (.slice A101_0 y103.length c101_0)) (fun _ hk=>hk.2) (.slice A101_1 y108.length c101_1)) (fun _ hk=>⟨hk.1.1,⟨hk.1.2.1,hk.1.2.2⟩⟩)⟩
             have n5_:Aside0 (Kd.V (Kd.int .u8) 5 ((w16.setCell ⟨gb102,0,none⟩ (.slice A101_0 y103.length c101_0)).setCell ⟨gb102,1,none⟩ (.slice A101_1 y108.length c101_1)) w.heap.size (fun k_=>(P0_ k_\/w.heap.size<=k_)/\some k_≠(u3:Value).ownBlock/\k_≠gb102) (.slice A101_1 y108.length c101_1) y108):=⟨by (with_reducible repeat (first|apply Kd.V_alloc|apply Kd.V_drewN|apply Kd.V_drew));exact Kd.V_mono (Kd.V_far (p:=⟨gb102,1,none⟩) (Kd.V_far (p:=⟨gb102,0,none⟩) (Kd.V_mono HO112.out (fun k_ hk=>(⟨hk,hk.2.2⟩:_/\k_≠gb102))) (fun _ hk=>hk.2) (.slice A101_0 y103.length c101_0)) (fun _ hk=>hk.2) (.slice A101_1 y108.length c101_1)) (fun _ hk=>⟨hk.1.1,⟨hk.1.2.1,hk.1.2.2⟩⟩)⟩
             have n6_:Aside0 (((w16.setCell ⟨gb102,0,none⟩ (.slice A101_0 y103.length c101_0)).setCell ⟨gb102,1,none⟩ (.slice A101_1 y108.length c101_1)).heap[gb102]? = some (.cells #[.slice A101_0 y103.length c101_0,.slice A101_1 y108.length c101_1,.int .i64 ((rd_T34 l0 x8_1).f2)] 34 (0,0))):=⟨by (with_reducible repeat (first|refine blk_drewN ?_ _|refine blk_drew ?_|refine blk_alloc ?_ _));refine blk_put (cs:=#[.slice A101_0 y103.length c101_0,.slice A101_1 ((rd_T34 l0 x8_1).f1).length c101_1,.int .i64 ((rd_T34 l0 x8_1).f2)]) ?_ 1 _ rfl;(with_reducible repeat (first|refine blk_drewN ?_ _|refine blk_drew ?_|refine blk_alloc ?_ _));refine blk_put (cs:=#[.slice A101_0 ((rd_T34 l0 x8_1).f0).length c101_0,.slice A101_1 ((rd_T34 l0 x8_1).f1).length c101_1,.int .i64 ((rd_T34 l0 x8_1).f2)]) ?_ 0 _ rfl;(with_reducible repeat (first|refine blk_drewN ?_ _|refine blk_drew ?_|refine blk_alloc ?_ _));exact BK102.out⟩
             have n7_:Aside0 (Below w.heap.size w ((w16.setCell ⟨gb102,0,none⟩ (.slice A101_0 y103.length c101_0)).setCell ⟨gb102,1,none⟩ (.slice A101_1 y108.length c101_1))):=⟨by repeat (first|(with_reducible first|exact HB.out|apply below_alloc|apply pw_below_drewN|apply below_drew1|refine below_set ?_ GE102.out)|exact HB.out)⟩
             (try clear HO_3)
             (try clear HO_6)
             (try clear HL101_0)
             (try clear HL101_1)
             (try clear HO107)
             (try clear HO112)
             (try clear BK102)
             (try clear HB)
             generalize ((w16.setCell ⟨gb102,0,none⟩ (.slice A101_0 y103.length c101_0)).setCell ⟨gb102,1,none⟩ (.slice A101_1 y108.length c101_1))=w21 at n0_ n1_ n2_ n3_ n4_ n5_ n6_ n7_ ⊢
             have HO_3:=n0_
             have HO_6:=n1_
             have HL101_0:=n2_
             have HL101_1:=n3_
             have HO107:=n4_
             have HO112:=n5_
             have BK102:=n6_
             have HB:=n7_
             clear n0_ n1_ n2_ n3_ n4_ n5_ n6_ n7_
             have hcz22_0:w21.cell? ⟨gb102,0,none⟩=some (.slice A101_0 y103.length c101_0):=(blk_cell BK102.out 0).trans rfl
             have hcz22_1:w21.cell? ⟨gb102,1,none⟩=some (.slice A101_1 y108.length c101_1):=(blk_cell BK102.out 1).trans rfl
             have hcz22_2:w21.cell? ⟨gb102,2,none⟩=some (.int .i64 ((rd_T34 l0 x8_1).f2)):=(blk_cell BK102.out 2).trans rfl
             have hfz22_0:=blk_frozen BK102.out 0
             have hfz22_1:=blk_frozen BK102.out 1
             have hfz22_2:=blk_frozen BK102.out 2
             try go_wp2_with (first|((with_reducible refine gate_builtin (b:=.append) (xs:=#[.tmp 31,.tmp 33]) rfl ?_);at_builtin;refine Kd.N_append k34 (w0:=w) w.heap.size rfl (.tmp 31) (.tmp 33) 22 34 (.agg #[(.slice none 0 0),(.slice none 0 0),(.int .i64 0)]) 56 rfl Tryz.underlying22 info34 rfl (by decide) (by omega) u3 x3_1 (⟨y103,y108,(rd_T34 l0 x8_1).f2⟩:S34) [.slice A101_0 y103.length c101_0,.slice A101_1 y108.length c101_1,.int .i64 ((rd_T34 l0 x8_1).f2)] (fun k_=>(P0_ k_\/w.heap.size<=k_)/\k_≠gb102) (fun k_=>((fun k_=>(P0_ k_\/w.heap.size<=k_)/\k_≠gb102)) k_/\some k_≠(u3:Value).ownBlock) rfl rfl ?aP (fun _ hk=>hk) ?aF ?aO ?aB ?aS ?aL ?_;(case aP=>exact (k34_mkF _ _ (⟨y103,y108,(rd_T34 l0 x8_1).f2⟩:S34) (Kd.V_reads' (Kd.V_mono (ok':=(fun k_=>((fun k_=>(P0_ k_\/w.heap.size<=k_)/\k_≠gb102)) k_/\some k_≠(u3:Value).ownBlock)) (HO107.out) (fun k_ hk=>⟨⟨hk.1,hk.2.2⟩,hk.2.1⟩))).2.1 (Kd.V_F (Kd.V_mono (ok':=(fun k_=>((fun k_=>(P0_ k_\/w.heap.size<=k_)/\k_≠gb102)) k_/\some k_≠(u3:Value).ownBlock)) (HO107.out) (fun k_ hk=>⟨⟨hk.1,hk.2.2⟩,hk.2.1⟩))) (Kd.V_reads' (Kd.V_mono (ok':=(fun k_=>((fun k_=>(P0_ k_\/w.heap.size<=k_)/\k_≠gb102)) k_/\some k_≠(u3:Value).ownBlock)) (HO112.out) (fun k_ hk=>⟨⟨hk.1,hk.2.2⟩,hk.2.1⟩))).2.1 (Kd.V_F (Kd.V_mono (ok':=(fun k_=>((fun k_=>(P0_ k_\/w.heap.size<=k_)/\k_≠gb102)) k_/\some k_≠(u3:Value).ownBlock)) (HO112.out) (fun k_ hk=>⟨⟨hk.1,hk.2.2⟩,hk.2.1⟩)))));(case aB=>exact (by repeat (first|(with_reducible first|exact HB.out|apply below_alloc|apply pw_below_drewN|apply below_drew1|refine below_set ?_ GE102.out)|exact HB.out)));(case aF=>exact (fun k_ hk=>⟨(.inr (Nat.le_trans (below_size (by repeat (first|(with_reducible first|exact HB.out|apply below_alloc|apply pw_below_drewN|apply below_drew1|refine below_set ?_ GE102.out)|exact HB.out))) hk)),Kd.freshB (g:=gb102) (o:=.cells #[.slice A101_0 y103.length c101_0,.slice A101_1 y108.length c101_1,.int .i64 ((rd_T34 l0 x8_1).f2)] 34 (0,0)) (by (with_reducible repeat (first|refine blk_drewN ?_ _|refine blk_drew ?_|refine blk_alloc ?_ _));exact BK102.out) k_ hk⟩));(case aO=>exact (by (with_reducible repeat (first|apply Kd.N_alloc|apply Kd.N_drewN|apply Kd.N_drew));exact HO_3.out));(case aS=>exact (below_size (by repeat (first|(with_reducible first|exact HB.out|apply below_alloc|apply pw_below_drewN|apply below_drew1|refine below_set ?_ GE102.out)|exact HB.out))));(case aL=>have:=LMc12.out;omega);intro v114 w23 ho hb hg hat;rw [<-Ny113.out] at ho;have n0_:=z_ (Kd.V_afterv (ok:=(fun k_=>(P0_ k_\/w.heap.size<=k_)/\k_≠gb102)) (by (with_reducible repeat (first|apply Kd.V_alloc|apply Kd.V_drewN|apply Kd.V_drew));exact Kd.V_mono HO_6.out (fun _ hk=>⟨⟨hk.1,hk.2.2⟩,hk.2.1⟩)) hg hat);have n1_:=z_ (Kd.V_afterv (ok:=(fun k_=>(P0_ k_\/w.heap.size<=k_)/\k_≠gb102)) (by (with_reducible repeat (first|apply Kd.V_alloc|apply Kd.V_drewN|apply Kd.V_drew));exact Kd.V_mono HL101_0.out (fun _ hk=>⟨⟨hk.1,hk.2.2⟩,hk.2.1⟩)) hg hat);have n2_:=z_ (Kd.V_afterv (ok:=(fun k_=>(P0_ k_\/w.heap.size<=k_)/\k_≠gb102)) (by (with_reducible repeat (first|apply Kd.V_alloc|apply Kd.V_drewN|apply Kd.V_drew));exact Kd.V_mono HL101_1.out (fun _ hk=>⟨⟨hk.1,hk.2.2⟩,hk.2.1⟩)) hg hat);have n3_:=z_ (blk_grown (g:=gb102) (o:=.cells #[.slice A101_0 y103.length c101_0,.slice A101_1 y108.length c101_1,.int .i64 ((rd_T34 l0 x8_1).f2)] 34 (0,0)) (by (with_reducible repeat (first|refine blk_drewN ?_ _|refine blk_drew ?_|refine blk_alloc ?_ _));exact BK102.out) hg (Kd.N_away HO_3.out (fun _ hk=>hk.2)));have n4_:=z_ (Kd.V_afterv (ok:=(fun k_=>(P0_ k_\/w.heap.size<=k_)/\k_≠gb102)) (by (with_reducible repeat (first|apply Kd.V_alloc|apply Kd.V_drewN|apply Kd.V_drew));exact Kd.V_mono HO107.out (fun _ hk=>⟨⟨hk.1,hk.2.2⟩,hk.2.1⟩)) hg hat);have n5_:=z_ (Kd.V_afterv (ok:=(fun k_=>(P0_ k_\/w.heap.size<=k_)/\k_≠gb102)) (by (with_reducible repeat (first|apply Kd.V_alloc|apply Kd.V_drewN|apply Kd.V_drew));exact Kd.V_mono HO112.out (fun _ hk=>⟨⟨hk.1,hk.2.2⟩,hk.2.1⟩)) hg hat);have n6_:=z_ (hb);have n7_:=z_ (ho);clear HO_6;clear HL101_0;clear HL101_1;clear BK102;clear HO107;clear HO112;clear HB;clear HO_3;have HO_6:=n0_;have HL101_0:=n1_;have HL101_1:=n2_;have BK102:=n3_;have HO107:=n4_;have HO112:=n5_;have HB:=n6_;have HO115:=n7_;clear n0_ n1_ n2_ n3_ n4_ n5_ n6_ n7_;clear ho hb hg hat))
             go_roundg k1
             case measure=>have:=HK1.out;omega
             case rel=>exact ⟨(y113),(wrap64 (x8_1+1)),(by first|rfl|(simp;done)|(simp [*];done)),H',⟨by have:=HK1.out;omega⟩,⟨by (with_reducible repeat (first|apply Kd.N_alloc|apply Kd.N_drewN|apply Kd.N_drew));exact Kd.N_mono HO115.out (fun _ hk=>hk.1)⟩,⟨by (with_reducible repeat (first|apply Kd.V_alloc|apply Kd.V_drewN|apply Kd.V_drew));exact Kd.V_mono HO_6.out (fun _ hk=>⟨hk.1.1,hk.2⟩)⟩,⟨by repeat (first|(with_reducible first|exact HB.out|apply below_alloc|apply pw_below_drewN|apply below_drew1|refine below_set ?_ GE102.out)|exact HB.out)⟩⟩
            ·rw [if_neg c12] at H
             exact absurd H (by simp)
           ·rw [if_neg c11] at H
            exact absurd H (by simp)
          ·rw [if_neg c10] at H
           exact absurd H (by simp)
         ·rw [if_neg c8] at H
          exact absurd H (by simp)
        ·rw [if_neg c7] at H
         exact absurd H (by simp)
       ·rw [if_neg c5] at H
        have c5b0:decide (x8_1<30)=false:=decide_eq_false c5
        clear c5
        have H':=z_ H
        clear H
        have p101:0<=(x8_1:Int):=of_decide_eq_true (by first|(with_reducible assumption)|assumption)
        have q101:x8_1<(l0.length:Int):=of_decide_eq_true (by first|(with_reducible assumption)|assumption)
        obtain ⟨ad101,A101_0,c101_0,A101_1,c101_1,e101,hx101_0,hx101_1,hx101_2,hl101_0,hi101_0,hl101_1,hi101_1⟩:=at_T34 (Kd.V_reads' HO_6.out).2.2 x8_1 p101 q101
        cases e101
        obtain ⟨ce101,hce101,hMe101,hcc101⟩:=Kd.V_get HO_6.out z34 x8_1 p101 (by first|exact q101|exact of_decide_eq_true (by first|(with_reducible assumption)|assumption)|(have e_:=(Kd.V_reads' HO_6.out).1;omega))
        obtain ⟨ua101_0,uc101_0,ua101_1,uc101_1,rfl,ul101_0,ge101_0,ul101_1,ge101_1⟩:=k34_openF hMe101
        have hv101_0:=hcc101 0 _ rfl
        rw [Nat.add_zero] at hv101_0
        replace hv101_0:=Option.some.inj (hv101_0.symm.trans hx101_0)
        injection hv101_0 with hva_ hvn_ hvc_
        rw [hva_] at ge101_0
        rw [hvc_] at ul101_0
        have HL101_0:=z_ (show Kd.V (Kd.int .u8) 5 _ w.heap.size _ _ ((rd_T34 l0 x8_1).f0) from Kd.V_mk ul101_0 ge101_0)
        clear hva_ hvn_ hvc_ ge101_0 ul101_0
        have hv101_1:=hcc101 1 _ rfl
        rw [add_field _ _ 1 (by omega)] at hv101_1
        replace hv101_1:=Option.some.inj (hv101_1.symm.trans hx101_1)
        injection hv101_1 with hva_ hvn_ hvc_
        rw [hva_] at ge101_1
        rw [hvc_] at ul101_1
        have HL101_1:=z_ (show Kd.V (Kd.int .u8) 5 _ w.heap.size _ _ ((rd_T34 l0 x8_1).f1) from Kd.V_mk ul101_1 ge101_1)
        clear hva_ hvn_ hvc_ ge101_1 ul101_1
        clear hcc101 hce101
        have HR101_0:=z_ hi101_0
        have HC101_0:=z_ hl101_0
        clear hi101_0 hl101_0
        have HR101_1:=z_ hi101_1
        have HC101_1:=z_ hl101_1
        clear hi101_1 hl101_1
        replace p101:=eq_true p101
        replace q101:=eq_true q101
        go_wp2_with (first|((with_reducible refine gate_dst (N:=5) rfl ?_);refine box_event ?hg (N:=5) ?hd (cs:=#[.slice none 0 0,.slice none 0 0,.int .i64 0]) (t:=34) ?hr ?_;(case hd=>rfl);(case hg=>rfl);(case hr=>first|(go_simp;done)|(go_simp;rfl));intro gb102 hg w24 hbox hb;have n0_:=z_ (Kd.N_below (Kd.N_elderB (by (with_reducible repeat (first|apply Kd.N_alloc|apply Kd.N_drewN|apply Kd.N_drew));exact HO_3.out) gb102 (Nat.le_of_eq hg.symm)) hb);have n1_:=z_ (Kd.V_below (Kd.V_elderB (by (with_reducible repeat (first|apply Kd.V_alloc|apply Kd.V_drewN|apply Kd.V_drew));exact HO_6.out) gb102 (Nat.le_of_eq hg.symm)) hb);have n2_:=z_ (Kd.V_below (Kd.V_elderB (by (with_reducible repeat (first|apply Kd.V_alloc|apply Kd.V_drewN|apply Kd.V_drew));exact HL101_0.out) gb102 (Nat.le_of_eq hg.symm)) hb);have n3_:=z_ (Kd.V_below (Kd.V_elderB (by (with_reducible repeat (first|apply Kd.V_alloc|apply Kd.V_drewN|apply Kd.V_drew));exact HL101_1.out) gb102 (Nat.le_of_eq hg.symm)) hb);have n4_:=z_ (Kd.C_below (by repeat (first|(with_reducible exact HR101_0.out)|(with_reducible refine Kd.C_alloc ?_ _)|(with_reducible refine Kd.C_drewN ?_ _)|(with_reducible refine Kd.C_drew ?_)|exact HR101_0.out)) hb);have n5_:=z_ (Kd.C_below (by repeat (first|(with_reducible exact HR101_1.out)|(with_reducible refine Kd.C_alloc ?_ _)|(with_reducible refine Kd.C_drewN ?_ _)|(with_reducible refine Kd.C_drew ?_)|exact HR101_1.out)) hb);have n6_:=z_ (below_step (by repeat (first|(with_reducible first|exact HB.out|apply below_alloc|apply pw_below_drewN|apply below_drew1)|exact HB.out)) hb);have n7_:=z_ (hbox);have n8_:=z_ ((by rw [hg];exact (below_size (by repeat (first|(with_reducible first|exact HB.out|apply below_alloc|apply pw_below_drewN|apply below_drew1)|exact HB.out))):w.heap.size<=gb102));have n9_:=z_ ((by rw [hg];exact (below_size (by repeat (first|(with_reducible first|exact HB.out|apply below_alloc|apply pw_below_drewN|apply below_drew1)|exact HB.out))):w.heap.size<=gb102));clear HO_3;clear HO_6;clear HL101_0;clear HL101_1;clear HR101_0;clear HR101_1;clear HB;have HO_3:=n0_;have HO_6:=n1_;have HL101_0:=n2_;have HL101_1:=n3_;have HR101_0:=n4_;have HR101_1:=n5_;have HB:=n6_;have BK102:=n7_;have GW102:=n8_;have GE102:=n9_;clear n0_ n1_ n2_ n3_ n4_ n5_ n6_ n7_ n8_ n9_;clear hb hbox hg;have hcz25_0:w24.cell? ⟨gb102,0,none⟩=some (.slice none 0 0):=(blk_cell BK102.out 0).trans rfl;have hcz25_1:w24.cell? ⟨gb102,1,none⟩=some (.slice none 0 0):=(blk_cell BK102.out 1).trans rfl;have hcz25_2:w24.cell? ⟨gb102,2,none⟩=some (.int .i64 0):=(blk_cell BK102.out 2).trans rfl;have hfz25_0:=blk_frozen BK102.out 0;have hfz25_1:=blk_frozen BK102.out 1;have hfz25_2:=blk_frozen BK102.out 2))
        go_roundg k1
        case measure=>have:=HK1.out;omega
        case rel=>exact ⟨(x3_1),(wrap64 (x8_1+1)),(by first|rfl|(simp;done)|(simp [*];done)),H',⟨by have:=HK1.out;omega⟩,⟨by (with_reducible repeat (first|apply Kd.N_alloc|apply Kd.N_drewN|apply Kd.N_drew));exact Kd.N_mono (Kd.N_far (p:=⟨gb102,2,none⟩) (Kd.N_far (p:=⟨gb102,1,none⟩) (Kd.N_far (p:=⟨gb102,0,none⟩) (Kd.N_mono HO_3.out (fun k_ hk=>(⟨hk,hk.2⟩:_/\k_≠gb102))) (fun _ hk=>hk.2) (.slice A101_0 ((rd_T34 l0 x8_1).f0).length c101_0)) (fun _ hk=>hk.2) (.slice A101_1 ((rd_T34 l0 x8_1).f1).length c101_1)) (fun _ hk=>hk.2) (.int .i64 ((rd_T34 l0 x8_1).f2))) (fun _ hk=>hk.1.1)⟩,⟨by (with_reducible repeat (first|apply Kd.V_alloc|apply Kd.V_drewN|apply Kd.V_drew));exact Kd.V_mono (Kd.V_far (p:=⟨gb102,2,none⟩) (Kd.V_far (p:=⟨gb102,1,none⟩) (Kd.V_far (p:=⟨gb102,0,none⟩) (Kd.V_mono HO_6.out (fun k_ hk=>(⟨hk,hk.2⟩:_/\k_≠gb102))) (fun _ hk=>hk.2) (.slice A101_0 ((rd_T34 l0 x8_1).f0).length c101_0)) (fun _ hk=>hk.2) (.slice A101_1 ((rd_T34 l0 x8_1).f1).length c101_1)) (fun _ hk=>hk.2) (.int .i64 ((rd_T34 l0 x8_1).f2))) (fun _ hk=>⟨hk.1.1.1,hk.1.1.2⟩)⟩,⟨by repeat (first|(with_reducible first|exact HB.out|apply below_alloc|apply pw_below_drewN|apply below_drew1|refine below_set ?_ GE102.out)|exact HB.out)⟩⟩
      ·rw [if_neg c4] at H
       exact absurd H (by simp)
     ·rw [if_neg c3] at H
      exact absurd H (by simp)
    ·rw [if_neg c2] at H
     have c2b0:decide (x8_1<(l0.length:Int))=false:=decide_eq_false c2
     clear c2
     obtain rfl:=Option.some.inj H
     go_wp2
     go_ret
     exact ⟨_,by first|rfl|(simp [errW_none,errW_some]<;>rfl)|(simp [*,errW_none,errW_some]<;>rfl),by (with_reducible repeat (first|apply Kd.N_alloc|apply Kd.N_drewN|apply Kd.N_drew));exact HO_3.out,by repeat (first|(with_reducible first|exact HB.out|apply below_alloc|apply pw_below_drewN|apply below_drew1)|exact HB.out)⟩
def annalsref10_SameItem.f (l0_0:List Int) (l0_1:List Int) (a0_2:Int) (l1_0:List Int) (l1_1:List Int) (a1_2:Int):Option (Bool):=if (strOfNums l0_0).toList=(strOfNums l1_0).toList then (if (strOfNums l0_1).toList=(strOfNums l1_1).toList then (some (a0_2==a1_2)) else (some false)) else (some false)
set_option maxHeartbeats 8000000 in
set_option maxRecDepth 100000 in
theorem annalsref10_SameItem.calls (A0_0:Option Addr) (c0_0:Nat) (l0_0:List Int) (A0_1:Option Addr) (c0_1:Nat) (l0_1:List Int) (a0_2:Int) (A1_0:Option Addr) (c1_0:Nat) (l1_0:List Int) (A1_1:Option Addr) (c1_1:Nat) (l1_1:List Int) (a1_2:Int) (r:Bool) (w:World) (hr0_0:Kd.C (Kd.int .u8) w A0_0 l0_0.length l0_0) (hc0_0:l0_0.length<=c0_0) (hr0_1:Kd.C (Kd.int .u8) w A0_1 l0_1.length l0_1) (hc0_1:l0_1.length<=c0_1) (hr1_0:Kd.C (Kd.int .u8) w A1_0 l1_0.length l1_0) (hc1_0:l1_0.length<=c1_0) (hr1_1:Kd.C (Kd.int .u8) w A1_1 l1_1.length l1_1) (hc1_1:l1_1.length<=c1_1) (h:annalsref10_SameItem.f l0_0 l0_1 a0_2 l1_0 l1_1 a1_2=some r):
 Calls Tryz.prog 13 #[.agg #[.slice A0_0 l0_0.length c0_0,.slice A0_1 l0_1.length c0_1,.int .i64 a0_2],.agg #[.slice A1_0 l1_0.length c1_0,.slice A1_1 l1_1.length c1_1,.int .i64 a1_2]] w fun e w'=>e = .returned (.bool r)/\Below w.heap.size w w':=by
 have hu40:=Tryz.underlying40
 have HR0_0:=z_ hr0_0
 have HC0_0:=z_ hc0_0
 clear hr0_0 hc0_0
 have HR0_1:=z_ hr0_1
 have HC0_1:=z_ hc0_1
 clear hr0_1 hc0_1
 have HR1_0:=z_ hr1_0
 have HC1_0:=z_ hc1_0
 clear hr1_0 hc1_0
 have HR1_1:=z_ hr1_1
 have HC1_1:=z_ hc1_1
 clear hr1_1 hc1_1
 have HB:=z_ (Below.refl w.heap.size w)
 have H:(if (strOfNums l0_0).toList=(strOfNums l1_0).toList then (if (strOfNums l0_1).toList=(strOfNums l1_1).toList then (some (a0_2==a1_2)) else (some false)) else (some false))=some r:=h
 clear h
 by_cases c3:(strOfNums l0_0).toList=(strOfNums l1_0).toList
 ·rw [if_pos c3] at H
  have c3b0:((strOfNums l0_0).toList==(strOfNums l1_0).toList)=true:=beq_iff_eq.mpr c3
  have c3b1:((strOfNums l0_0).toList !=(strOfNums l1_0).toList)=false:=bne_eq_false_iff_eq.mpr c3
  clear c3
  by_cases c4:(strOfNums l0_1).toList=(strOfNums l1_1).toList
  ·rw [if_pos c4] at H
   have c4b0:((strOfNums l0_1).toList==(strOfNums l1_1).toList)=true:=beq_iff_eq.mpr c4
   have c4b1:((strOfNums l0_1).toList !=(strOfNums l1_1).toList)=false:=bne_eq_false_iff_eq.mpr c4
   clear c4
   obtain rfl:=Option.some.inj H
   go_enter Tryz.func13,Tryz.ntmps13
   go_wp2_with (first|((with_reducible refine gate_dst (N:=2) rfl ?_);refine box_event ?hg (N:=2) ?hd (cs:=#[.slice A0_0 l0_0.length c0_0,.slice A0_1 l0_1.length c0_1,.int .i64 a0_2]) (t:=40) ?hr ?_;(case hd=>rfl);(case hg=>rfl);(case hr=>first|(go_simp;done)|(go_simp;rfl));intro gb348 hg w5 hbox hb;have n0_:=z_ (below_step (by repeat (first|(with_reducible first|exact HB.out|apply below_alloc|apply pw_below_drewN|apply below_drew1)|exact HB.out)) hb);have n1_:=z_ (hbox);have n2_:=z_ ((by rw [hg];exact (below_size (by repeat (first|(with_reducible first|exact HB.out|apply below_alloc|apply pw_below_drewN|apply below_drew1)|exact HB.out))):w.heap.size<=gb348));have n3_:=z_ ((by rw [hg];exact (below_size (by repeat (first|(with_reducible first|exact HB.out|apply below_alloc|apply pw_below_drewN|apply below_drew1)|exact HB.out))):w.heap.size<=gb348));clear HB;have HB:=n0_;have BK348:=n1_;have GW348:=n2_;have GE348:=n3_;clear n0_ n1_ n2_ n3_;clear hb hbox hg)|((with_reducible refine gate_dst (N:=3) rfl ?_);refine box_event ?hg (N:=3) ?hd (cs:=#[.slice A1_0 l1_0.length c1_0,.slice A1_1 l1_1.length c1_1,.int .i64 a1_2]) (t:=40) ?hr ?_;(case hd=>rfl);(case hg=>rfl);(case hr=>first|(go_simp;done)|(go_simp;rfl));intro gb349 hg w6 hbox hb;have n0_:=z_ (blk_below (g:=gb348) (o:=.cells #[.slice A0_0 l0_0.length c0_0,.slice A0_1 l0_1.length c0_1,.int .i64 a0_2] 40 (0,0)) (by (with_reducible repeat (first|refine blk_drewN ?_ _|refine blk_drew ?_|refine blk_alloc ?_ _));exact BK348.out) hb);have n1_:=z_ (below_step (by repeat (first|(with_reducible first|exact HB.out|apply below_alloc|apply pw_below_drewN|apply below_drew1|refine below_set ?_ GE348.out)|exact HB.out)) hb);have n2_:=z_ (hbox);have n3_:=z_ ((by rw [hg];exact (below_size (by repeat (first|(with_reducible first|exact HB.out|apply below_alloc|apply pw_below_drewN|apply below_drew1|refine below_set ?_ GE348.out)|exact HB.out))):w.heap.size<=gb349));have n4_:=z_ ((by rw [hg];exact (below_size (by repeat (first|(with_reducible first|exact HB.out|apply below_alloc|apply pw_below_drewN|apply below_drew1|refine below_set ?_ GE348.out)|exact HB.out))):w.heap.size<=gb349));have n5_:=z_ ((by rw [hg];exact Nat.ne_of_lt (blk_lt (g:=gb348) (o:=.cells #[.slice A0_0 l0_0.length c0_0,.slice A0_1 l0_1.length c0_1,.int .i64 a0_2] 40 (0,0)) (by (with_reducible repeat (first|refine blk_drewN ?_ _|refine blk_drew ?_|refine blk_alloc ?_ _));exact BK348.out)):gb348≠gb349));have n6_:=z_ ((by rw [hg];exact Nat.ne_of_gt (blk_lt (g:=gb348) (o:=.cells #[.slice A0_0 l0_0.length c0_0,.slice A0_1 l0_1.length c0_1,.int .i64 a0_2] 40 (0,0)) (by (with_reducible repeat (first|refine blk_drewN ?_ _|refine blk_drew ?_|refine blk_alloc ?_ _));exact BK348.out)):gb349≠gb348));clear BK348;clear HB;have BK348:=n0_;have HB:=n1_;have BK349:=n2_;have GW349:=n3_;have GE349:=n4_;have NB348_349:=n5_;have NB349_348:=n6_;clear n0_ n1_ n2_ n3_ n4_ n5_ n6_;clear hb hbox hg;have hnb7:=NB348_349.out;have hnc7:=NB349_348.out;have hcz8_0:w6.cell? ⟨gb348,0,none⟩=some (.slice A0_0 l0_0.length c0_0):=(blk_cell BK348.out 0).trans rfl;have hcz8_1:w6.cell? ⟨gb348,1,none⟩=some (.slice A0_1 l0_1.length c0_1):=(blk_cell BK348.out 1).trans rfl;have hcz8_2:w6.cell? ⟨gb348,2,none⟩=some (.int .i64 a0_2):=(blk_cell BK348.out 2).trans rfl;have hfz8_0:=blk_frozen BK348.out 0;have hfz8_1:=blk_frozen BK348.out 1;have hfz8_2:=blk_frozen BK348.out 2;have hcv9:=Kd.C_string (P:=Tryz.prog) (A:=A0_0) (c:=c0_0) Tryz.underlying23 Tryz.underlying5 Tryz.underlying9 (Kd.C_below HR0_0.out HB.out);have hcz10_0:w6.cell? ⟨gb349,0,none⟩=some (.slice A1_0 l1_0.length c1_0):=(blk_cell BK349.out 0).trans rfl;have hcz10_1:w6.cell? ⟨gb349,1,none⟩=some (.slice A1_1 l1_1.length c1_1):=(blk_cell BK349.out 1).trans rfl;have hcz10_2:w6.cell? ⟨gb349,2,none⟩=some (.int .i64 a1_2):=(blk_cell BK349.out 2).trans rfl;have hfz10_0:=blk_frozen BK349.out 0;have hfz10_1:=blk_frozen BK349.out 1;have hfz10_2:=blk_frozen BK349.out 2;have hcv11:=Kd.C_string (P:=Tryz.prog) (A:=A1_0) (c:=c1_0) Tryz.underlying23 Tryz.underlying5 Tryz.underlying9 (Kd.C_below HR1_0.out HB.out);have hcv12:=Kd.C_string (P:=Tryz.prog) (A:=A0_1) (c:=c0_1) Tryz.underlying23 Tryz.underlying5 Tryz.underlying9 (Kd.C_below HR0_1.out HB.out);have hcv13:=Kd.C_string (P:=Tryz.prog) (A:=A1_1) (c:=c1_1) Tryz.underlying23 Tryz.underlying5 Tryz.underlying9 (Kd.C_below HR1_1.out HB.out)))
   go_ret
   exact ⟨by first|rfl|(simp [errW_none,errW_some]<;>rfl)|(simp [*,errW_none,errW_some]<;>rfl),by repeat (first|(with_reducible first|exact HB.out|apply below_alloc|apply pw_below_drewN|apply below_drew1|refine below_set ?_ GE348.out|refine below_set ?_ GE349.out)|exact HB.out)⟩
  ·rw [if_neg c4] at H
   have c4b0:((strOfNums l0_1).toList==(strOfNums l1_1).toList)=false:=beq_eq_false_iff_ne.mpr c4
   have c4b1:((strOfNums l0_1).toList !=(strOfNums l1_1).toList)=true:=bne_iff_ne.mpr c4
   obtain rfl:=Option.some.inj H
   go_enter Tryz.func13,Tryz.ntmps13
   go_wp2_with (first|((with_reducible refine gate_dst (N:=2) rfl ?_);refine box_event ?hg (N:=2) ?hd (cs:=#[.slice A0_0 l0_0.length c0_0,.slice A0_1 l0_1.length c0_1,.int .i64 a0_2]) (t:=40) ?hr ?_;(case hd=>rfl);(case hg=>rfl);(case hr=>first|(go_simp;done)|(go_simp;rfl));intro gb348 hg w14 hbox hb;have n0_:=z_ (below_step (by repeat (first|(with_reducible first|exact HB.out|apply below_alloc|apply pw_below_drewN|apply below_drew1)|exact HB.out)) hb);have n1_:=z_ (hbox);have n2_:=z_ ((by rw [hg];exact (below_size (by repeat (first|(with_reducible first|exact HB.out|apply below_alloc|apply pw_below_drewN|apply below_drew1)|exact HB.out))):w.heap.size<=gb348));have n3_:=z_ ((by rw [hg];exact (below_size (by repeat (first|(with_reducible first|exact HB.out|apply below_alloc|apply pw_below_drewN|apply below_drew1)|exact HB.out))):w.heap.size<=gb348));clear HB;have HB:=n0_;have BK348:=n1_;have GW348:=n2_;have GE348:=n3_;clear n0_ n1_ n2_ n3_;clear hb hbox hg)|((with_reducible refine gate_dst (N:=3) rfl ?_);refine box_event ?hg (N:=3) ?hd (cs:=#[.slice A1_0 l1_0.length c1_0,.slice A1_1 l1_1.length c1_1,.int .i64 a1_2]) (t:=40) ?hr ?_;(case hd=>rfl);(case hg=>rfl);(case hr=>first|(go_simp;done)|(go_simp;rfl));intro gb349 hg w15 hbox hb;have n0_:=z_ (blk_below (g:=gb348) (o:=.cells #[.slice A0_0 l0_0.length c0_0,.slice A0_1 l0_1.length c0_1,.int .i64 a0_2] 40 (0,0)) (by (with_reducible repeat (first|refine blk_drewN ?_ _|refine blk_drew ?_|refine blk_alloc ?_ _));exact BK348.out) hb);have n1_:=z_ (below_step (by repeat (first|(with_reducible first|exact HB.out|apply below_alloc|apply pw_below_drewN|apply below_drew1|refine below_set ?_ GE348.out)|exact HB.out)) hb);have n2_:=z_ (hbox);have n3_:=z_ ((by rw [hg];exact (below_size (by repeat (first|(with_reducible first|exact HB.out|apply below_alloc|apply pw_below_drewN|apply below_drew1|refine below_set ?_ GE348.out)|exact HB.out))):w.heap.size<=gb349));have n4_:=z_ ((by rw [hg];exact (below_size (by repeat (first|(with_reducible first|exact HB.out|apply below_alloc|apply pw_below_drewN|apply below_drew1|refine below_set ?_ GE348.out)|exact HB.out))):w.heap.size<=gb349));have n5_:=z_ ((by rw [hg];exact Nat.ne_of_lt (blk_lt (g:=gb348) (o:=.cells #[.slice A0_0 l0_0.length c0_0,.slice A0_1 l0_1.length c0_1,.int .i64 a0_2] 40 (0,0)) (by (with_reducible repeat (first|refine blk_drewN ?_ _|refine blk_drew ?_|refine blk_alloc ?_ _));exact BK348.out)):gb348≠gb349));have n6_:=z_ ((by rw [hg];exact Nat.ne_of_gt (blk_lt (g:=gb348) (o:=.cells #[.slice A0_0 l0_0.length c0_0,.slice A0_1 l0_1.length c0_1,.int .i64 a0_2] 40 (0,0)) (by (with_reducible repeat (first|refine blk_drewN ?_ _|refine blk_drew ?_|refine blk_alloc ?_ _));exact BK348.out)):gb349≠gb348));clear BK348;clear HB;have BK348:=n0_;have HB:=n1_;have BK349:=n2_;have GW349:=n3_;have GE349:=n4_;have NB348_349:=n5_;have NB349_348:=n6_;clear n0_ n1_ n2_ n3_ n4_ n5_ n6_;clear hb hbox hg;have hnb16:=NB348_349.out;have hnc16:=NB349_348.out;have hcz17_0:w15.cell? ⟨gb348,0,none⟩=some (.slice A0_0 l0_0.length c0_0):=(blk_cell BK348.out 0).trans rfl;have hcz17_1:w15.cell? ⟨gb348,1,none⟩=some (.slice A0_1 l0_1.length c0_1):=(blk_cell BK348.out 1).trans rfl;have hcz17_2:w15.cell? ⟨gb348,2,none⟩=some (.int .i64 a0_2):=(blk_cell BK348.out 2).trans rfl;have hfz17_0:=blk_frozen BK348.out 0;have hfz17_1:=blk_frozen BK348.out 1;have hfz17_2:=blk_frozen BK348.out 2;have hcv18:=Kd.C_string (P:=Tryz.prog) (A:=A0_0) (c:=c0_0) Tryz.underlying23 Tryz.underlying5 Tryz.underlying9 (Kd.C_below HR0_0.out HB.out);have hcz19_0:w15.cell? ⟨gb349,0,none⟩=some (.slice A1_0 l1_0.length c1_0):=(blk_cell BK349.out 0).trans rfl;have hcz19_1:w15.cell? ⟨gb349,1,none⟩=some (.slice A1_1 l1_1.length c1_1):=(blk_cell BK349.out 1).trans rfl;have hcz19_2:w15.cell? ⟨gb349,2,none⟩=some (.int .i64 a1_2):=(blk_cell BK349.out 2).trans rfl;have hfz19_0:=blk_frozen BK349.out 0;have hfz19_1:=blk_frozen BK349.out 1;have hfz19_2:=blk_frozen BK349.out 2;have hcv20:=Kd.C_string (P:=Tryz.prog) (A:=A1_0) (c:=c1_0) Tryz.underlying23 Tryz.underlying5 Tryz.underlying9 (Kd.C_below HR1_0.out HB.out);have hcv21:=Kd.C_string (P:=Tryz.prog) (A:=A0_1) (c:=c0_1) Tryz.underlying23 Tryz.underlying5 Tryz.underlying9 (Kd.C_below HR0_1.out HB.out);have hcv22:=Kd.C_string (P:=Tryz.prog) (A:=A1_1) (c:=c1_1) Tryz.underlying23 Tryz.underlying5 Tryz.underlying9 (Kd.C_below HR1_1.out HB.out)))
   go_ret
   exact ⟨by first|rfl|(simp [errW_none,errW_some]<;>rfl)|(simp [*,errW_none,errW_some]<;>rfl),by repeat (first|(with_reducible first|exact HB.out|apply below_alloc|apply pw_below_drewN|apply below_drew1|refine below_set ?_ GE348.out|refine below_set ?_ GE349.out)|exact HB.out)⟩
 ·rw [if_neg c3] at H
  have c3b0:((strOfNums l0_0).toList==(strOfNums l1_0).toList)=false:=beq_eq_false_iff_ne.mpr c3
  have c3b1:((strOfNums l0_0).toList !=(strOfNums l1_0).toList)=true:=bne_iff_ne.mpr c3
  obtain rfl:=Option.some.inj H
  go_enter Tryz.func13,Tryz.ntmps13
  go_wp2_with (first|((with_reducible refine gate_dst (N:=2) rfl ?_);refine box_event ?hg (N:=2) ?hd (cs:=#[.slice A0_0 l0_0.length c0_0,.slice A0_1 l0_1.length c0_1,.int .i64 a0_2]) (t:=40) ?hr ?_;(case hd=>rfl);(case hg=>rfl);(case hr=>first|(go_simp;done)|(go_simp;rfl));intro gb348 hg w23 hbox hb;have n0_:=z_ (below_step (by repeat (first|(with_reducible first|exact HB.out|apply below_alloc|apply pw_below_drewN|apply below_drew1)|exact HB.out)) hb);have n1_:=z_ (hbox);have n2_:=z_ ((by rw [hg];exact (below_size (by repeat (first|(with_reducible first|exact HB.out|apply below_alloc|apply pw_below_drewN|apply below_drew1)|exact HB.out))):w.heap.size<=gb348));have n3_:=z_ ((by rw [hg];exact (below_size (by repeat (first|(with_reducible first|exact HB.out|apply below_alloc|apply pw_below_drewN|apply below_drew1)|exact HB.out))):w.heap.size<=gb348));clear HB;have HB:=n0_;have BK348:=n1_;have GW348:=n2_;have GE348:=n3_;clear n0_ n1_ n2_ n3_;clear hb hbox hg)|((with_reducible refine gate_dst (N:=3) rfl ?_);refine box_event ?hg (N:=3) ?hd (cs:=#[.slice A1_0 l1_0.length c1_0,.slice A1_1 l1_1.length c1_1,.int .i64 a1_2]) (t:=40) ?hr ?_;(case hd=>rfl);(case hg=>rfl);(case hr=>first|(go_simp;done)|(go_simp;rfl));intro gb349 hg w24 hbox hb;have n0_:=z_ (blk_below (g:=gb348) (o:=.cells #[.slice A0_0 l0_0.length c0_0,.slice A0_1 l0_1.length c0_1,.int .i64 a0_2] 40 (0,0)) (by (with_reducible repeat (first|refine blk_drewN ?_ _|refine blk_drew ?_|refine blk_alloc ?_ _));exact BK348.out) hb);have n1_:=z_ (below_step (by repeat (first|(with_reducible first|exact HB.out|apply below_alloc|apply pw_below_drewN|apply below_drew1|refine below_set ?_ GE348.out)|exact HB.out)) hb);have n2_:=z_ (hbox);have n3_:=z_ ((by rw [hg];exact (below_size (by repeat (first|(with_reducible first|exact HB.out|apply below_alloc|apply pw_below_drewN|apply below_drew1|refine below_set ?_ GE348.out)|exact HB.out))):w.heap.size<=gb349));have n4_:=z_ ((by rw [hg];exact (below_size (by repeat (first|(with_reducible first|exact HB.out|apply below_alloc|apply pw_below_drewN|apply below_drew1|refine below_set ?_ GE348.out)|exact HB.out))):w.heap.size<=gb349));have n5_:=z_ ((by rw [hg];exact Nat.ne_of_lt (blk_lt (g:=gb348) (o:=.cells #[.slice A0_0 l0_0.length c0_0,.slice A0_1 l0_1.length c0_1,.int .i64 a0_2] 40 (0,0)) (by (with_reducible repeat (first|refine blk_drewN ?_ _|refine blk_drew ?_|refine blk_alloc ?_ _));exact BK348.out)):gb348≠gb349));have n6_:=z_ ((by rw [hg];exact Nat.ne_of_gt (blk_lt (g:=gb348) (o:=.cells #[.slice A0_0 l0_0.length c0_0,.slice A0_1 l0_1.length c0_1,.int .i64 a0_2] 40 (0,0)) (by (with_reducible repeat (first|refine blk_drewN ?_ _|refine blk_drew ?_|refine blk_alloc ?_ _));exact BK348.out)):gb349≠gb348));clear BK348;clear HB;have BK348:=n0_;have HB:=n1_;have BK349:=n2_;have GW349:=n3_;have GE349:=n4_;have NB348_349:=n5_;have NB349_348:=n6_;clear n0_ n1_ n2_ n3_ n4_ n5_ n6_;clear hb hbox hg;have hnb25:=NB348_349.out;have hnc25:=NB349_348.out;have hcz26_0:w24.cell? ⟨gb348,0,none⟩=some (.slice A0_0 l0_0.length c0_0):=(blk_cell BK348.out 0).trans rfl;have hcz26_1:w24.cell? ⟨gb348,1,none⟩=some (.slice A0_1 l0_1.length c0_1):=(blk_cell BK348.out 1).trans rfl;have hcz26_2:w24.cell? ⟨gb348,2,none⟩=some (.int .i64 a0_2):=(blk_cell BK348.out 2).trans rfl;have hfz26_0:=blk_frozen BK348.out 0;have hfz26_1:=blk_frozen BK348.out 1;have hfz26_2:=blk_frozen BK348.out 2;have hcv27:=Kd.C_string (P:=Tryz.prog) (A:=A0_0) (c:=c0_0) Tryz.underlying23 Tryz.underlying5 Tryz.underlying9 (Kd.C_below HR0_0.out HB.out);have hcz28_0:w24.cell? ⟨gb349,0,none⟩=some (.slice A1_0 l1_0.length c1_0):=(blk_cell BK349.out 0).trans rfl;have hcz28_1:w24.cell? ⟨gb349,1,none⟩=some (.slice A1_1 l1_1.length c1_1):=(blk_cell BK349.out 1).trans rfl;have hcz28_2:w24.cell? ⟨gb349,2,none⟩=some (.int .i64 a1_2):=(blk_cell BK349.out 2).trans rfl;have hfz28_0:=blk_frozen BK349.out 0;have hfz28_1:=blk_frozen BK349.out 1;have hfz28_2:=blk_frozen BK349.out 2;have hcv29:=Kd.C_string (P:=Tryz.prog) (A:=A1_0) (c:=c1_0) Tryz.underlying23 Tryz.underlying5 Tryz.underlying9 (Kd.C_below HR1_0.out HB.out)))
  go_ret
  exact ⟨by first|rfl|(simp [errW_none,errW_some]<;>rfl)|(simp [*,errW_none,errW_some]<;>rfl),by repeat (first|(with_reducible first|exact HB.out|apply below_alloc|apply pw_below_drewN|apply below_drew1|refine below_set ?_ GE348.out|refine below_set ?_ GE349.out)|exact HB.out)⟩
end Go.Proofs.YtdeneoknjeegbaaGreatDoor.P
end
