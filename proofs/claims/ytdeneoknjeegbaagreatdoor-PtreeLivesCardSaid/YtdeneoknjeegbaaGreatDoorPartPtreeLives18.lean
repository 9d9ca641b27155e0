/- Lemmas of this claim, part 18. -/
import Derived.Test.YtdeneoknjeegbaaGreatDoorPartPtreeLives2
import Derived.Test.YtdeneoknjeegbaaGreatDoorPartPtreeLives17
import Derived.Test.YtdeneoknjeegbaaGreatDoorPartPtreeLives11
import Derived.Test.YtdeneoknjeegbaaGreatDoorPartPtreeLives15
import Derived.Test.YtdeneoknjeegbaaGreatDoorPartPtreeLives9
import Derived.Lib.SlBytesConst
import Derived.Test.YtdeneoknjeegbaaGreatDoorPartPtreeLives16
import Derived.ChangeArms
import Derived.SizedLaws
import Derived.Test.YtdeneoknjeegbaaGreatDoorPartPtreeLives5
import Derived.WideShapes
import Derived.ChangeSlices
set_option linter.unusedVariables false
set_option linter.unusedSimpArgs false
section
namespace Go.Proofs.YtdeneoknjeegbaaGreatDoor.P
open Go.RowKit YtdeneoknjeegbaaGreatDoorW.PrintWords YtdeneoknjeegbaaGreatDoorW.PrintLast YtdeneoknjeegbaaGreatDoorW.PrintMore
attribute [local go_sem] max2_int min2_int max_two min_two max_three min_three max_four min_four
def annalsref10_SameItems.l0:Nat->List (S40)->List (S40)->Int->Int->Option (Bool)
 | 0,_,_,_,_=>none
 | k+1,x0,x1,x12,x13=>if x13<x12 then (if 0<=x13 then (if x13<(x0.length:Int) then (if x13<(x1.length:Int) then ((annalsref10_SameItem.f ((rd_T40 x0 x13).f0) ((rd_T40 x0 x13).f1) ((rd_T40 x0 x13).f2) ((rd_T40 x1 x13).f0) ((rd_T40 x1 x13).f1) ((rd_T40 x1 x13).f2)).bind fun t352=>(if t352=true then (annalsref10_SameItems.l0 k x0 x1 x12 (wrap64 (x13+1))) else (some false))) else (none)) else (none)) else (none)) else (some true)
def annalsref10_SameItems.f (k:Nat) (l0:List (S40)) (l1:List (S40)):Option (Bool):=if (l0.length:Int)=(l1.length:Int) then (annalsref10_SameItems.l0 k l0 l1 (l0.length:Int) 0) else (some false)
def annalsref10_SameItems.T6:Bool×List (List Nat×List Nat):=(true,[([],[]),([],[]),([0,1],[0,1]),([2],[2]),([],[]),([],[]),([4,5],[4,5]),([6],[6]),([3,7],[3,7]),([8],[8])])
def annalsref10_SameItems.B6:List Nat:=[0,0,3,7,0,0,48,112,255,511]
theorem annalsref10_SameItems.tab6:rtab .any (opsOf Tryz.f41 6)=annalsref10_SameItems.T6:=by kernel_rfl
theorem annalsref10_SameItems.bits6:waitsOk annalsref10_SameItems.T6.2 annalsref10_SameItems.B6=true:=by kernel_rfl
set_option maxHeartbeats 8000000 in
set_option maxRecDepth 100000 in
theorem annalsref10_SameItems.calls (k:Nat) (A0:Option Addr) (c0:Nat) (l0:List (S40)) (A1:Option Addr) (c1:Nat) (l1:List (S40)) (r:Bool) (w:World) (hr0:Kd.C k40 w A0 l0.length l0) (hc0:l0.length<=c0) (hr1:Kd.C k40 w A1 l1.length l1) (hc1:l1.length<=c1) (h:annalsref10_SameItems.f k l0 l1=some r):
 Calls Tryz.prog 41 #[.slice A0 l0.length c0,.slice A1 l1.length c1] w fun e w'=>e = .returned (.bool r)/\Below w.heap.size w w':=by
 have hu40:=Tryz.underlying40
 have HR0:=z_ hr0
 have HC0:=z_ hc0
 clear hr0 hc0
 have HR1:=z_ hr1
 have HC1:=z_ hc1
 clear hr1 hc1
 have HB:=z_ (Below.refl w.heap.size w)
 have H:(if (l0.length:Int)=(l1.length:Int) then (annalsref10_SameItems.l0 k l0 l1 (l0.length:Int) 0) else (some false))=some r:=h
 clear h
 by_cases c3:(l0.length:Int)=(l1.length:Int)
 ·rw [if_pos c3] at H
  have c3b0:((l0.length:Int)==(l1.length:Int))=true:=beq_iff_eq.mpr c3
  have c3b1:((l0.length:Int) !=(l1.length:Int))=false:=bne_eq_false_iff_eq.mpr c3
  have c3b2:(l0.length==l1.length)=true:=by first|simpa using c3|(simp at c3 ⊢;omega)
  clear c3
  have H':=z_ H
  clear H
  go_enter Tryz.func41,Tryz.ntmps41
  go_wp2
  go_loopg [13] k (fun kq v13 w'=>∃(x13_1:Int),v13 = .int .i64 x13_1/\Aside0 (annalsref10_SameItems.l0 kq l0 l1 (l0.length:Int) x13_1=some r)/\Aside0 (kq<=k)/\Aside0 (Below w.heap.size w w'))
  case atStart=>exact ⟨(0),(by first|rfl|(simp;done)|(simp [*];done)),H',⟨Nat.le_refl _⟩,⟨by repeat (first|(with_reducible first|exact HB.out|apply below_alloc|apply pw_below_drewN|apply below_drew1)|exact HB.out)⟩⟩
  case round=>
   clear H'
   try clear c1
   try clear p2
   try clear c3
   try clear c3b0
   try clear c3b1
   try clear c3b2
   obtain ⟨x13_1,rfl,HA,HK1,HB⟩:=hrel
   cases gk with
   | zero=>exact absurd HA.out (by simp [annalsref10_SameItems.l0])
   | succ k1=>
     have H:=HA.out
     clear HA
     simp only [annalsref10_SameItems.l0] at H
     by_cases c4:x13_1<(l0.length:Int)
     ·rw [if_pos c4] at H
      have c4b0:decide (x13_1<(l0.length:Int))=true:=decide_eq_true c4
      clear c4
      by_cases c5:0<=x13_1
      ·rw [if_pos c5] at H
       have c5b0:decide (0<=x13_1)=true:=decide_eq_true c5
       clear c5
       by_cases c6:x13_1<(l0.length:Int)
       ·rw [if_pos c6] at H
        have c6b0:decide (x13_1<(l0.length:Int))=true:=decide_eq_true c6
        clear c6
        by_cases c7:x13_1<(l1.length:Int)
        ·rw [if_pos c7] at H
         have c7b0:decide (x13_1<(l1.length:Int))=true:=decide_eq_true c7
         clear c7
         replace H:=Option.bind_eq_some_iff.mp H
         obtain ⟨t352,A80,H⟩:=H
         replace H:(if t352=true then (annalsref10_SameItems.l0 k1 l0 l1 (l0.length:Int) (wrap64 (x13_1+1))) else (some false))=some r:=H
         have A8:=z_ A80
         clear A80
         by_cases c9:t352=true
         ·subst c9
          have H1:(annalsref10_SameItems.l0 k1 l0 l1 (l0.length:Int) (wrap64 (x13_1+1)))=some r:=by rw [if_pos rfl] at H;exact H
          clear H
          have H:=H1
          clear H1
          have H':=z_ H
          clear H
          try go_wp2
          have n0_:=z_ (below_drew1 HB.out)
          clear HB
          have HB:=n0_
          clear n0_
          have p350:0<=(x13_1:Int):=of_decide_eq_true (by first|(with_reducible assumption)|assumption)
          have q350:x13_1<(l0.length:Int):=of_decide_eq_true (by first|(with_reducible assumption)|assumption)
          obtain ⟨ad350,A350_0,c350_0,A350_1,c350_1,e350,hx350_0,hx350_1,hx350_2,hl350_0,hi350_0,hl350_1,hi350_1⟩:=at_T40 HR0.out x13_1 p350 q350
          have hw350_2:=hx350_2
          have hw350_1:=hx350_1
          have hw350_0:=hx350_0
          cases e350
          replace hx350_0:=(HB.out.cell (World.block_lt_of_cell? w _ hx350_0)).trans hx350_0
          replace hx350_1:=(HB.out.cell (World.block_lt_of_cell? w _ hx350_1)).trans hx350_1
          replace hx350_2:=(HB.out.cell (World.block_lt_of_cell? w _ hx350_2)).trans hx350_2
          have HR350_0:=z_ hi350_0
          have HC350_0:=z_ hl350_0
          clear hi350_0 hl350_0
          have HR350_1:=z_ hi350_1
          have HC350_1:=z_ hl350_1
          clear hi350_1 hl350_1
          replace p350:=eq_true p350
          replace q350:=eq_true q350
          have p351:0<=(x13_1:Int):=of_decide_eq_true (by first|(with_reducible assumption)|assumption)
          have q351:x13_1<(l1.length:Int):=of_decide_eq_true (by first|(with_reducible assumption)|assumption)
          obtain ⟨ad351,A351_0,c351_0,A351_1,c351_1,e351,hx351_0,hx351_1,hx351_2,hl351_0,hi351_0,hl351_1,hi351_1⟩:=at_T40 HR1.out x13_1 p351 q351
          have hw351_2:=hx351_2
          have hw351_1:=hx351_1
          have hw351_0:=hx351_0
          cases e351
          replace hx351_0:=(HB.out.cell (World.block_lt_of_cell? w _ hx351_0)).trans hx351_0
          replace hx351_1:=(HB.out.cell (World.block_lt_of_cell? w _ hx351_1)).trans hx351_1
          replace hx351_2:=(HB.out.cell (World.block_lt_of_cell? w _ hx351_2)).trans hx351_2
          have HR351_0:=z_ hi351_0
          have HC351_0:=z_ hl351_0
          clear hi351_0 hl351_0
          have HR351_1:=z_ hi351_1
          have HC351_1:=z_ hl351_1
          clear hi351_1 hl351_1
          replace p351:=eq_true p351
          replace q351:=eq_true q351
          refine start_ (n:=10) (S:=fun w'=>w'.cell? (ad350.add ((x13_1).toNat*3))=some (.slice A350_0 ((rd_T40 l0 x13_1).f0).length c350_0)/\w'.cell? ⟨(ad350.add ((x13_1).toNat*3)).block,(ad350.add ((x13_1).toNat*3)).off+1,none⟩=some (.slice A350_1 ((rd_T40 l0 x13_1).f1).length c350_1)/\w'.cell? ⟨(ad350.add ((x13_1).toNat*3)).block,(ad350.add ((x13_1).toNat*3)).off+2,none⟩=some (.int .i64 ((rd_T40 l0 x13_1).f2))/\w'.cell? (ad351.add ((x13_1).toNat*3))=some (.slice A351_0 ((rd_T40 l1 x13_1).f0).length c351_0)/\w'.cell? ⟨(ad351.add ((x13_1).toNat*3)).block,(ad351.add ((x13_1).toNat*3)).off+1,none⟩=some (.slice A351_1 ((rd_T40 l1 x13_1).f1).length c351_1)/\w'.cell? ⟨(ad351.add ((x13_1).toNat*3)).block,(ad351.add ((x13_1).toNat*3)).off+2,none⟩=some (.int .i64 ((rd_T40 l1 x13_1).f2))) (ds:=[]) (bt_ 10 0) (by kernel_rfl) rfl rfl ⟨((HB.out.cell (World.block_lt_of_cell? w _ hw350_0)).trans hw350_0),((HB.out.cell (World.block_lt_of_cell? w _ hw350_1)).trans hw350_1),((HB.out.cell (World.block_lt_of_cell? w _ hw350_2)).trans hw350_2),((HB.out.cell (World.block_lt_of_cell? w _ hw351_0)).trans hw351_0),((HB.out.cell (World.block_lt_of_cell? w _ hw351_1)).trans hw351_1),((HB.out.cell (World.block_lt_of_cell? w _ hw351_2)).trans hw351_2)⟩ (fun hHeld=>?_);refine with_tabW annalsref10_SameItems.tab6 annalsref10_SameItems.bits6 (fun HT_ HW_=>?_)
          generalize wr.drew=w10 at HB HR350_0 HR350_1 HR351_0 HR351_1 hx350_0 hx350_1 hx350_2 hx351_0 hx351_1 hx351_2 hHeld ⊢
          refine pure_ (i:=0) (N:=some 16) (v:=?_) (a':=?_) (bt_ 10 1) rfl rfl (any_of HT_.out (by kernel_rfl)) (fun _ _ _ h=>h) (Or.inl ⟨by rfl,?_⟩) ?_ ?_
          rotate_left
          ·intro w'
           go_simp
           with_reducible rfl
          rotate_left
          ·simp only [pq_]
           rfl
          refine pure_ (i:=1) (N:=some 17) (v:=?_) (a':=?_) (bt_ 10 3) rfl rfl (any_of HT_.out (by kernel_rfl)) (fun _ _ _ h=>h) (Or.inl ⟨by rfl,?_⟩) ?_ ?_
          rotate_left
          ·intro w'
           go_simp
           with_reducible rfl
          rotate_left
          ·simp only [pq_]
           rfl
          refine pure_ (i:=2) (N:=some 18) (v:=?_) (a':=?_) (bt_ 10 7) rfl rfl (any_of HT_.out (by kernel_rfl)) (fun _ _ _ h=>h) (Or.inl ⟨by rfl,?_⟩) ?_ ?_
          rotate_left
          ·intro w'
           go_simp
           with_reducible rfl
          rotate_left
          ·simp only [pq_]
           rfl
          refine pure_ (i:=4) (N:=some 20) (v:=?_) (a':=?_) (bt_ 10 23) rfl rfl (any_of HT_.out (by kernel_rfl)) (fun _ _ _ h=>h) (Or.inl ⟨by rfl,?_⟩) ?_ ?_
          rotate_left
          ·intro w'
           go_simp
           with_reducible rfl
          rotate_left
          ·simp only [pq_]
           rfl
          refine pure_ (i:=5) (N:=some 21) (v:=?_) (a':=?_) (bt_ 10 55) rfl rfl (any_of HT_.out (by kernel_rfl)) (fun _ _ _ h=>h) (Or.inl ⟨by rfl,?_⟩) ?_ ?_
          rotate_left
          ·intro w'
           go_simp
           with_reducible rfl
          rotate_left
          ·simp only [pq_]
           rfl
          refine pure_ (i:=6) (N:=some 22) (v:=?_) (a':=?_) (bt_ 10 119) rfl rfl (any_of HT_.out (by kernel_rfl)) (fun _ _ _ h=>h) (Or.inl ⟨by rfl,?_⟩) ?_ ?_
          rotate_left
          ·intro w'
           go_simp
           with_reducible rfl
          rotate_left
          ·simp only [pq_]
           rfl
          refine take_ (i:=3) (N:=some 19) (v:=?_) (a':=?_) (bt_ 10 127) rfl rfl (take_ofW HT_.out HW_.out (by kernel_rfl)) (fun _ _ _ h=>h) (Or.inl ⟨by rfl,?_⟩) hHeld ?_ ?_
          rotate_left
          ·rintro w' ⟨s0,s1,s2,s3,s4,s5⟩
           go_simp
           with_reducible rfl
          rotate_left
          ·simp only [pq_]
           rfl
          refine take_ (i:=7) (N:=some 23) (v:=?_) (a':=?_) (bt_ 10 255) rfl rfl (take_ofW HT_.out HW_.out (by kernel_rfl)) (fun _ _ _ h=>h) (Or.inl ⟨by rfl,?_⟩) hHeld ?_ ?_
          rotate_left
          ·rintro w' ⟨s0,s1,s2,s3,s4,s5⟩
           go_simp
           with_reducible rfl
          rotate_left
          ·simp only [pq_]
           rfl
          refine one_ (i:=8) (N:=some 24) (bt_ 10 511) rfl rfl (one_of HT_.out (by kernel_rfl)) (by decide) (fun K hK=>?_)
          refine goes_ Tryz.func13 (by kernel_rfl) rfl #[.agg #[.slice A350_0 ((rd_T40 l0 x13_1).f0).length c350_0,.slice A350_1 ((rd_T40 l0 x13_1).f1).length c350_1,.int .i64 ((rd_T40 l0 x13_1).f2)],.agg #[.slice A351_0 ((rd_T40 l1 x13_1).f0).length c351_0,.slice A351_1 ((rd_T40 l1 x13_1).f1).length c351_1,.int .i64 ((rd_T40 l1 x13_1).f2)]] (by rfl) rfl rfl (by (try simp only [List.map_toArray,List.map_cons,List.map_nil]);first|done|rfl|(simp only [List.length_drop,List.length_take];rfl)) ?_
          with_reducible refine (annalsref10_SameItem.calls _ _ ((rd_T40 l0 x13_1).f0) _ _ ((rd_T40 l0 x13_1).f1) ((rd_T40 l0 x13_1).f2) _ _ ((rd_T40 l1 x13_1).f0) _ _ ((rd_T40 l1 x13_1).f1) ((rd_T40 l1 x13_1).f2) true _ ?side1 ?side2 ?side3 ?side4 ?side5 ?side6 ?side7 ?side8 A8.out).mono ?_
          (case side1=>repeat (first|exact (Kd.C_below HR350_0.out HB.out)|(with_reducible refine Kd.C_alloc ?_ _)|(with_reducible refine Kd.C_drewN ?_ _)|(with_reducible refine Kd.C_drew ?_)))
          (case side2=>exact HC350_0.out)
          (case side3=>repeat (first|exact (Kd.C_below HR350_1.out HB.out)|(with_reducible refine Kd.C_alloc ?_ _)|(with_reducible refine Kd.C_drewN ?_ _)|(with_reducible refine Kd.C_drew ?_)))
          (case side4=>exact HC350_1.out)
          (case side5=>repeat (first|exact (Kd.C_below HR351_0.out HB.out)|(with_reducible refine Kd.C_alloc ?_ _)|(with_reducible refine Kd.C_drewN ?_ _)|(with_reducible refine Kd.C_drew ?_)))
          (case side6=>exact HC351_0.out)
          (case side7=>repeat (first|exact (Kd.C_below HR351_1.out HB.out)|(with_reducible refine Kd.C_alloc ?_ _)|(with_reducible refine Kd.C_drewN ?_ _)|(with_reducible refine Kd.C_drew ?_)))
          (case side8=>exact HC351_1.out)
          rintro e w11 ⟨rfl,hb⟩
          refine ⟨_,rfl,?_⟩
          have n0_:=z_ (below_step (by repeat (first|(with_reducible first|exact HB.out|apply below_alloc|apply pw_below_drewN|apply below_drew1)|exact HB.out)) hb)
          clear HB
          have HB:=n0_
          clear n0_
          (try clear hb)
          (try clear hb2)
          (try clear hk)
          (try clear hi)
          refine hK.out _ _ ⟨((HB.out.cell (World.block_lt_of_cell? w _ hw350_0)).trans hw350_0),((HB.out.cell (World.block_lt_of_cell? w _ hw350_1)).trans hw350_1),((HB.out.cell (World.block_lt_of_cell? w _ hw350_2)).trans hw350_2),((HB.out.cell (World.block_lt_of_cell? w _ hw351_0)).trans hw351_0),((HB.out.cell (World.block_lt_of_cell? w _ hw351_1)).trans hw351_1),((HB.out.cell (World.block_lt_of_cell? w _ hw351_2)).trans hw351_2)⟩ (fun hHeld=>?_)
          clear hK K
          refine norm_ (a':=?_) ?_ ?_
          rotate_left
          ·show Act.put _ (some 24) _=_
           simp only [pq_]
           rfl
          refine pure_ (i:=9) (N:=some 25) (v:=?_) (a':=?_) (bt_ 10 1023) rfl rfl (any_of HT_.out (by kernel_rfl)) (fun _ _ _ h=>h) (Or.inl ⟨by rfl,?_⟩) ?_ ?_
          rotate_left
          ·intro w'
           go_simp
           with_reducible rfl
          rotate_left
          ·simp only [pq_]
           rfl
          refine done_ (done_of HT_.out (by kernel_rfl)) ?_
          try go_wp2
          go_roundg k1
          case measure=>have:=HK1.out;omega
          case rel=>exact ⟨(wrap64 (x13_1+1)),(by first|rfl|(simp;done)|(simp [*];done)),H',⟨by have:=HK1.out;omega⟩,⟨by repeat (first|(with_reducible first|exact HB.out|apply below_alloc|apply pw_below_drewN|apply below_drew1)|exact HB.out)⟩⟩
         ·replace c9:=Bool.eq_false_iff.mpr c9
          subst c9
          have H1:(some false)=some r:=by rw [if_neg (show ¬(false=true) by decide)] at H;exact H
          clear H
          have H:=H1
          clear H1
          obtain rfl:=Option.some.inj H
          try go_wp2
          have n0_:=z_ (below_drew1 HB.out)
          clear HB
          have HB:=n0_
          clear n0_
          have p350:0<=(x13_1:Int):=of_decide_eq_true (by first|(with_reducible assumption)|assumption)
          have q350:x13_1<(l0.length:Int):=of_decide_eq_true (by first|(with_reducible assumption)|assumption)
          obtain ⟨ad350,A350_0,c350_0,A350_1,c350_1,e350,hx350_0,hx350_1,hx350_2,hl350_0,hi350_0,hl350_1,hi350_1⟩:=at_T40 HR0.out x13_1 p350 q350
          have hw350_2:=hx350_2
          have hw350_1:=hx350_1
          have hw350_0:=hx350_0
          cases e350
          replace hx350_0:=(HB.out.cell (World.block_lt_of_cell? w _ hx350_0)).trans hx350_0
          replace hx350_1:=(HB.out.cell (World.block_lt_of_cell? w _ hx350_1)).trans hx350_1
          replace hx350_2:=(HB.out.cell (World.block_lt_of_cell? w _ hx350_2)).trans hx350_2
          have HR350_0:=z_ hi350_0
          have HC350_0:=z_ hl350_0
          clear hi350_0 hl350_0
          have HR350_1:=z_ hi350_1
          have HC350_1:=z_ hl350_1
          clear hi350_1 hl350_1
          replace p350:=eq_true p350
          replace q350:=eq_true q350
          have p351:0<=(x13_1:Int):=of_decide_eq_true (by first|(with_reducible assumption)|assumption)
          have q351:x13_1<(l1.length:Int):=of_decide_eq_true (by first|(with_reducible assumption)|assumption)
          obtain ⟨ad351,A351_0,c351_0,A351_1,c351_1,e351,hx351_0,hx351_1,hx351_2,hl351_0,hi351_0,hl351_1,hi351_1⟩:=at_T40 HR1.out x13_1 p351 q351
          have hw351_2:=hx351_2
          have hw351_1:=hx351_1
          have hw351_0:=hx351_0
          cases e351
          replace hx351_0:=(HB.out.cell (World.block_lt_of_cell? w _ hx351_0)).trans hx351_0
          replace hx351_1:=(HB.out.cell (World.block_lt_of_cell? w _ hx351_1)).trans hx351_1
          replace hx351_2:=(HB.out.cell (World.block_lt_of_cell? w _ hx351_2)).trans hx351_2
          have HR351_0:=z_ hi351_0
          have HC351_0:=z_ hl351_0
          clear hi351_0 hl351_0
          have HR351_1:=z_ hi351_1
          have HC351_1:=z_ hl351_1
          clear hi351_1 hl351_1
          replace p351:=eq_true p351
          replace q351:=eq_true q351
          refine start_ (n:=10) (S:=fun w'=>w'.cell? (ad350.add ((x13_1).toNat*3))=some (.slice A350_0 ((rd_T40 l0 x13_1).f0).length c350_0)/\w'.cell? ⟨(ad350.add ((x13_1).toNat*3)).block,(ad350.add ((x13_1).toNat*3)).off+1,none⟩=some (.slice A350_1 ((rd_T40 l0 x13_1).f1).length c350_1)/\w'.cell? ⟨(ad350.add ((x13_1).toNat*3)).block,(ad350.add ((x13_1).toNat*3)).off+2,none⟩=some (.int .i64 ((rd_T40 l0 x13_1).f2))/\w'.cell? (ad351.add ((x13_1).toNat*3))=some (.slice A351_0 ((rd_T40 l1 x13_1).f0).length c351_0)/\w'.cell? ⟨(ad351.add ((x13_1).toNat*3)).block,(ad351.add ((x13_1).toNat*3)).off+1,none⟩=some (.slice A351_1 ((rd_T40 l1 x13_1).f1).length c351_1)/\w'.cell? ⟨(ad351.add ((x13_1).toNat*3)).block,(ad351.add ((x13_1).toNat*3)).off+2,none⟩=some (.int .i64 ((rd_T40 l1 x13_1).f2))) (ds:=[]) (bt_ 10 0) (by kernel_rfl) rfl rfl ⟨((HB.out.cell (World.block_lt_of_cell? w _ hw350_0)).trans hw350_0),((HB.out.cell (World.block_lt_of_cell? w _ hw350_1)).trans hw350_1),((HB.out.cell (World.block_lt_of_cell? w _ hw350_2)).trans hw350_2),((HB.out.cell (World.block_lt_of_cell? w _ hw351_0)).trans hw351_0),((HB.out.cell (World.block_lt_of_cell? w _ hw351_1)).trans hw351_1),((HB.out.cell (World.block_lt_of_cell? w _ hw351_2)).trans hw351_2)⟩ (fun hHeld=>?_);refine with_tabW annalsref10_SameItems.tab6 annalsref10_SameItems.bits6 (fun HT_ HW_=>?_)
          generalize wr.drew=w12 at HB HR350_0 HR350_1 HR351_0 HR351_1 hx350_0 hx350_1 hx350_2 hx351_0 hx351_1 hx351_2 hHeld ⊢
          refine pure_ (i:=0) (N:=some 16) (v:=?_) (a':=?_) (bt_ 10 1) rfl rfl (any_of HT_.out (by kernel_rfl)) (fun _ _ _ h=>h) (Or.inl ⟨by rfl,?_⟩) ?_ ?_
          rotate_left
          ·intro w'
           go_simp
           with_reducible rfl
          rotate_left
          ·simp only [pq_]
           rfl
          refine pure_ (i:=1) (N:=some 17) (v:=?_) (a':=?_) (bt_ 10 3) rfl rfl (any_of HT_.out (by kernel_rfl)) (fun _ _ _ h=>h) (Or.inl ⟨by rfl,?_⟩) ?_ ?_
          rotate_left
          ·intro w'
           go_simp
           with_reducible rfl
          rotate_left
          ·simp only [pq_]
           rfl
          refine pure_ (i:=2) (N:=some 18) (v:=?_) (a':=?_) (bt_ 10 7) rfl rfl (any_of HT_.out (by kernel_rfl)) (fun _ _ _ h=>h) (Or.inl ⟨by rfl,?_⟩) ?_ ?_
          rotate_left
          ·intro w'
           go_simp
           with_reducible rfl
          rotate_left
          ·simp only [pq_]
           rfl
          refine pure_ (i:=4) (N:=some 20) (v:=?_) (a':=?_) (bt_ 10 23) rfl rfl (any_of HT_.out (by kernel_rfl)) (fun _ _ _ h=>h) (Or.inl ⟨by rfl,?_⟩) ?_ ?_
          rotate_left
          ·intro w'
           go_simp
           with_reducible rfl
          rotate_left
          ·simp only [pq_]
           rfl
          refine pure_ (i:=5) (N:=some 21) (v:=?_) (a':=?_) (bt_ 10 55) rfl rfl (any_of HT_.out (by kernel_rfl)) (fun _ _ _ h=>h) (Or.inl ⟨by rfl,?_⟩) ?_ ?_
          rotate_left
          ·intro w'
           go_simp
           with_reducible rfl
          rotate_left
          ·simp only [pq_]
           rfl
          refine pure_ (i:=6) (N:=some 22) (v:=?_) (a':=?_) (bt_ 10 119) rfl rfl (any_of HT_.out (by kernel_rfl)) (fun _ _ _ h=>h) (Or.inl ⟨by rfl,?_⟩) ?_ ?_
          rotate_left
          ·intro w'
           go_simp
           with_reducible rfl
          rotate_left
          ·simp only [pq_]
           rfl
          refine take_ (i:=3) (N:=some 19) (v:=?_) (a':=?_) (bt_ 10 127) rfl rfl (take_ofW HT_.out HW_.out (by kernel_rfl)) (fun _ _ _ h=>h) (Or.inl ⟨by rfl,?_⟩) hHeld ?_ ?_
          rotate_left
          ·rintro w' ⟨s0,s1,s2,s3,s4,s5⟩
           go_simp
           with_reducible rfl
          rotate_left
          ·simp only [pq_]
           rfl
          refine take_ (i:=7) (N:=some 23) (v:=?_) (a':=?_) (bt_ 10 255) rfl rfl (take_ofW HT_.out HW_.out (by kernel_rfl)) (fun _ _ _ h=>h) (Or.inl ⟨by rfl,?_⟩) hHeld ?_ ?_
          rotate_left
          ·rintro w' ⟨s0,s1,s2,s3,s4,s5⟩
           go_simp
           with_reducible rfl
          rotate_left
          ·simp only [pq_]
           rfl
          refine one_ (i:=8) (N:=some 24) (bt_ 10 511) rfl rfl (one_of HT_.out (by kernel_rfl)) (by decide) (fun K hK=>?_)
          refine goes_ Tryz.func13 (by kernel_rfl) rfl #[.agg #[.slice A350_0 ((rd_T40 l0 x13_1).f0).length c350_0,.slice A350_1 ((rd_T40 l0 x13_1).f1).length c350_1,.int .i64 ((rd_T40 l0 x13_1).f2)],.agg #[.slice A351_0 ((rd_T40 l1 x13_1).f0).length c351_0,.slice A351_1 ((rd_T40 l1 x13_1).f1).length c351_1,.int .i64 ((rd_T40 l1 x13_1).f2)]] (by rfl) rfl rfl (by (try simp only [List.map_toArray,List.map_cons,List.map_nil]);first|done|rfl|(simp only [List.length_drop,List.length_take];rfl)) ?_
          with_reducible refine (annalsref10_SameItem.calls _ _ ((rd_T40 l0 x13_1).f0) _ _ ((rd_T40 l0 x13_1).f1) ((rd_T40 l0 x13_1).f2) _ _ ((rd_T40 l1 x13_1).f0) _ _ ((rd_T40 l1 x13_1).f1) ((rd_T40 l1 x13_1).f2) false _ ?side1 ?side2 ?side3 ?side4 ?side5 ?side6 ?side7 ?side8 A8.out).mono ?_
          (case side1=>repeat (first|exact (Kd.C_below HR350_0.out HB.out)|(with_reducible refine Kd.C_alloc ?_ _)|(with_reducible refine Kd.C_drewN ?_ _)|(with_reducible refine Kd.C_drew ?_)))
          (case side2=>exact HC350_0.out)
          (case side3=>repeat (first|exact (Kd.C_below HR350_1.out HB.out)|(with_reducible refine Kd.C_alloc ?_ _)|(with_reducible refine Kd.C_drewN ?_ _)|(with_reducible refine Kd.C_drew ?_)))
          (case side4=>exact HC350_1.out)
          (case side5=>repeat (first|exact (Kd.C_below HR351_0.out HB.out)|(with_reducible refine Kd.C_alloc ?_ _)|(with_reducible refine Kd.C_drewN ?_ _)|(with_reducible refine Kd.C_drew ?_)))
          (case side6=>exact HC351_0.out)
          (case side7=>repeat (first|exact (Kd.C_below HR351_1.out HB.out)|(with_reducible refine Kd.C_alloc ?_ _)|(with_reducible refine Kd.C_drewN ?_ _)|(with_reducible refine Kd.C_drew ?_)))
          (case side8=>exact HC351_1.out)
          rintro e w13 ⟨rfl,hb⟩
          refine ⟨_,rfl,?_⟩
          have n0_:=z_ (below_step (by repeat (first|(with_reducible first|exact HB.out|apply below_alloc|apply pw_below_drewN|apply below_drew1)|exact HB.out)) hb)
          clear HB
          have HB:=n0_
          clear n0_
          (try clear hb)
          (try clear hb2)
          (try clear hk)
          (try clear hi)
          refine hK.out _ _ ⟨((HB.out.cell (World.block_lt_of_cell? w _ hw350_0)).trans hw350_0),((HB.out.cell (World.block_lt_of_cell? w _ hw350_1)).trans hw350_1),((HB.out.cell (World.block_lt_of_cell? w _ hw350_2)).trans hw350_2),((HB.out.cell (World.block_lt_of_cell? w _ hw351_0)).trans hw351_0),((HB.out.cell (World.block_lt_of_cell? w _ hw351_1)).trans hw351_1),((HB.out.cell (World.block_lt_of_cell? w _ hw351_2)).trans hw351_2)⟩ (fun hHeld=>?_)
          clear hK K
          refine norm_ (a':=?_) ?_ ?_
          rotate_left
          ·show Act.put _ (some 24) _=_
           simp only [pq_]
           rfl
          refine pure_ (i:=9) (N:=some 25) (v:=?_) (a':=?_) (bt_ 10 1023) rfl rfl (any_of HT_.out (by kernel_rfl)) (fun _ _ _ h=>h) (Or.inl ⟨by rfl,?_⟩) ?_ ?_
          rotate_left
          ·intro w'
           go_simp
           with_reducible rfl
          rotate_left
          ·simp only [pq_]
           rfl
          refine done_ (done_of HT_.out (by kernel_rfl)) ?_
          try go_wp2
          go_ret
          exact ⟨by first|rfl|(simp [errW_none,errW_some]<;>rfl)|(simp [*,errW_none,errW_some]<;>rfl),by repeat (first|(with_reducible first|exact HB.out|apply below_alloc|apply pw_below_drewN|apply below_drew1)|exact HB.out)⟩
        ·rw [if_neg c7] at H
         exact absurd H (by simp)
       ·rw [if_neg c6] at H
        exact absurd H (by simp)
      ·rw [if_neg c5] at H
       exact absurd H (by simp)
     ·rw [if_neg c4] at H
      have c4b0:decide (x13_1<(l0.length:Int))=false:=decide_eq_false c4
      clear c4
      obtain rfl:=Option.some.inj H
      go_wp2
      go_ret
      exact ⟨by first|rfl|(simp [errW_none,errW_some]<;>rfl)|(simp [*,errW_none,errW_some]<;>rfl),by repeat (first|(with_reducible first|exact HB.out|apply below_alloc|apply pw_below_drewN|apply below_drew1)|exact HB.out)⟩
 ·rw [if_neg c3] at H
  have c3b0:((l0.length:Int)==(l1.length:Int))=false:=beq_eq_false_iff_ne.mpr c3
  have c3b1:((l0.length:Int) !=(l1.length:Int))=true:=bne_iff_ne.mpr c3
  have c3b2:(l0.length==l1.length)=false:=by first|simpa using c3|(simp at c3 ⊢;omega)
  obtain rfl:=Option.some.inj H
  go_enter Tryz.func41,Tryz.ntmps41
  go_wp2
  go_ret
  exact ⟨by first|rfl|(simp [errW_none,errW_some]<;>rfl)|(simp [*,errW_none,errW_some]<;>rfl),by repeat (first|(with_reducible first|exact HB.out|apply below_alloc|apply pw_below_drewN|apply below_drew1)|exact HB.out)⟩
end Go.Proofs.YtdeneoknjeegbaaGreatDoor.P
end
section
namespace Go.Proofs.YtdeneoknjeegbaaGreatDoor.P
open Go Go.RowKit YtdeneoknjeegbaaGreatDoor.Pure YtdeneoknjeegbaaGreatDoorW.PrintWords YtdeneoknjeegbaaGreatDoorW.PrintLast YtdeneoknjeegbaaGreatDoorW.PrintMore
def cutP (p:S34):S34:=⟨p.f0.take 30,p.f1.take 100,p.f2⟩
def fewL (l:List S34):List S34:=(l.take 30).map cutP
theorem mn_take (l:List Int) (n:Nat):0<=mn (l.length:Int) (n:Int)/\mn (l.length:Int) (n:Int)<=(l.length:Int)/\l.take (mn (l.length:Int) (n:Int)).toNat=l.take n:=by
 unfold mn
 split
 ·exact ⟨by omega,by omega,by rw [Int.toNat_natCast]⟩
 ·refine ⟨by omega,Int.le_refl _,?_⟩
  rw [Int.toNat_natCast,List.take_of_length_le (Nat.le_refl _),List.take_of_length_le (by omega)]
theorem few_l0 (l:List S34) (hl:l.length<=9223372036854775807) : ∀(k i:Nat) (out:List S34),i<=l.length->l.length-i<k->out.length<=i->annalslaw10_few.l0 k out l (l.length:Int) (i:Int)=some (out++((l.take 30).drop i).map cutP)
 | 0,i,out,h1,h2,h3=>by omega
 | k+1,i,out,h1,h2,h3=>by
   unfold annalslaw10_few.l0
   by_cases hi:i<l.length
   ·have hw:wrap64 ((i:Int)+1)=((i+1:Nat):Int):=by rw [wrap64_id _ (by omega)];omega
    rw [if_pos (show (i:Int)<(l.length:Int) by omega),if_pos (show 0<=(i:Int) by omega),if_pos (show (i:Int)<(l.length:Int) by omega)]
    by_cases h30:i<30
    ·obtain ⟨a1,a2,a3⟩:=mn_take (rd_T34 l (i:Int)).f0 30
     obtain ⟨b1,b2,b3⟩:=mn_take (rd_T34 l (i:Int)).f1 100
     have e1:((30:Nat):Int)=30:=rfl
     have e2:((100:Nat):Int)=100:=rfl
     rw [e1] at a1 a2 a3
     rw [e2] at b1 b2 b3
     rw [if_pos (show (i:Int)<30 by omega),if_pos a1,if_pos a2,if_pos b1,if_pos b2,if_pos (by omega),a3,b3,hw,few_l0 l hl k (i+1) _ (by omega) (by omega) (by rw [List.length_append];show out.length+1<=i+1;omega)]
     have hd:(l.take 30).drop i=rd_T34 l (i:Int) :: (l.take 30).drop (i+1):=by
      rw [List.drop_eq_getElem_cons (by rw [List.length_take];omega),List.getElem_take]
      unfold rd_T34
      rw [List.getD_eq_getElem?_getD,Int.toNat_natCast,List.getElem?_eq_getElem hi]
      rfl
     rw [hd,List.map_cons,List.append_assoc]
     rfl
    ·rw [if_neg (show ¬(i:Int)<30 by omega),hw,few_l0 l hl k (i+1) _ (by omega) (by omega) (by omega)]
     rw [List.drop_of_length_le (by rw [List.length_take];omega),List.drop_of_length_le (by rw [List.length_take];omega)]
   ·rw [if_neg (by omega),List.drop_of_length_le (by rw [List.length_take];omega)]
    simp
theorem few_f (l:List S34) (hl:l.length<=9223372036854775807):annalslaw10_few.f (l.length+1) l=some (fewL l):=by
 unfold annalslaw10_few.f
 have:=few_l0 l hl (l.length+1) 0 [] (by omega) (by omega) (by simp)
 rw [show ((0:Nat):Int)=0 from rfl] at this
 rw [this]
 rfl
theorem same_item (a b:List Int) (c:Int):annalsref10_SameItem.f a b c a b c=some true:=by
 unfold annalsref10_SameItem.f
 rw [if_pos rfl,if_pos rfl]
 simp
theorem same_l0 (l:List S40) (hl:l.length<=9223372036854775807) : ∀(k i:Nat),i<=l.length->l.length-i<k->annalsref10_SameItems.l0 k l l (l.length:Int) (i:Int)=some true
 | 0,i,h1,h2=>by omega
 | k+1,i,h1,h2=>by
   unfold annalsref10_SameItems.l0
   by_cases hi:i<l.length
   ·have hw:wrap64 ((i:Int)+1)=((i+1:Nat):Int):=by rw [wrap64_id _ (by omega)];omega
    rw [if_pos (by omega),if_pos (by omega),if_pos (by omega),if_pos (by omega),same_item,Option.bind_some,if_pos rfl,hw]
    exact same_l0 l hl k (i+1) (by omega) (by omega)
   ·rw [if_neg (by omega)]
theorem same_f (l:List S40) (hl:l.length<=9223372036854775807):annalsref10_SameItems.f (l.length+1) l l=some true:=by
 unfold annalsref10_SameItems.f
 rw [if_pos rfl]
 exact same_l0 l hl (l.length+1) 0 (by omega) (by omega)
theorem V_of_C59 {w:World} {A:Option Addr} {c:Nat} {l:List S34} (h:Kd.C k34 w A l.length l) (hc:l.length<=c):Kd.V k34 34 w w.heap.size (fun k=>k<w.heap.size) (.slice A l.length c) l:=Kd.V_mk hc (fun W' hW=>by
 have hsz:w.heap.size<=W'.heap.size:=by
  rcases Nat.eq_zero_or_pos w.heap.size with h0|h0
  ·omega
  ·have:=heap_lt (hW (w.heap.size-1) (by omega) (by omega)) (by omega)
   omega
 have hb:Below w.heap.size w { W' with os:=w.os,tape:=w.tape,output:=w.output }:=⟨rfl,rfl,rfl,hsz,fun k hk=>hW k hk hk⟩
 have hx:=Kd.C_below h hb
 exact hx)
set_option maxRecDepth 100000 in
theorem deep_calls {w:World} {base p:Nat} {size room:Int} {vc vf:Value} {X:Nat->Prop} {cs:Cs} (h:ArenaM w base p size room vc vf X cs) (root:Int) (t:Option PT) (ht:TreeIn size cs root t):
 Calls Tryz.prog 44 #[.pointer (some ⟨p,0,none⟩),.int .i64 root] w fun e w'=>e = .returned (.int .i64 (heightO t:Int))/\Below w.heap.size w w':=by
 have HA:=z_ h
 have HT:=z_ ht
 clear h ht
 obtain ⟨w1,hw1⟩ : ∃w1,w1=w.alloc (.cells #[.int .i64 0] 3):=⟨_,rfl⟩
 have HB1:=z_ (show Below w.heap.size w w1 from by rw [hw1];exact below_alloc (Below.refl _ _) _)
 have HG1:=z_ (show w1.heap[w.heap.size]? = some (.cells #[.int .i64 ((0:Nat):Int)] 3 (0,0)) from by rw [hw1];exact heap_alloc_new w _)
 go_enter Tryz.func44,Tryz.ntmps44
 go_wp2_with fail
 rw [<-hw1]
 clear hw1
 obtain ⟨g,hg⟩ : ∃g,g=w.heap.size:=⟨_,rfl⟩
 rw [<-hg] at HG1
 rw [<-hg]
 have HGE:=z_ hg
 clear hg
 cases t with
 | none=>
   refine (walk_none (HA.out.below HB1.out) root 0 HT.out.at_ _).mono ?_
   rintro e w2 ⟨rfl,hb⟩
   have hc:=blk_below HG1.out hb
   have HB2:=z_ (below_step HB1.out hb)
   clear hb
   have k0:w2.cell? ⟨g,0,none⟩=some (.int .i64 ((0:Nat):Int)):=blk_cell hc 0
   clear hc
   go_wp2_with fail
   go_ret
   exact ⟨rfl,HB2.out⟩
 | some t=>
   refine (walkD_calls (deep_see HA.out g (by rw [HGE.out];exact Nat.le_refl _)) HT.out.g.ok t root 0 0 (fun k=>k=g) w1 (by have h1:t.h<=2048:=HT.out.good.h_le;omega) HT.out.at_ ⟨HB1.out,HG1.out,rfl⟩).mono ?_
   rintro e w2 ⟨rfl,O,⟨hB,hc,hO⟩,hk,hgr⟩
   have HB2:=z_ hB
   obtain ⟨d,hd⟩ : ∃d,d=walkS (fun (d:Nat) (_:Nd) (a:Nat)=>max d a) 0 t 0:=⟨_,rfl⟩
   rw [<-hd] at hc
   have HD:=z_ (show ((heightO (some t):Nat):Int)=(d:Int) from by rw [hd,walkS_max];show ((t.h:Nat):Int)=_;omega)
   have k0:w2.cell? ⟨g,0,none⟩=some (.int .i64 (d:Int)):=blk_cell hc 0
   clear hB hc hO hk hgr hd
   go_wp2_with fail
   go_ret
   exact ⟨by rw [HD.out];rfl,HB2.out⟩
theorem ArenaM.start {w w1:World} {size room:Int} (hb : ¬newBad size room) (ha:ABlk w1 w.heap.size size room (.slice none 0 0) (.slice none 0 0)) (h1:Below w.heap.size w w1) (X:Nat->Prop) (hX : ∀k,X k->k<w1.heap.size/\k≠w.heap.size):
 ArenaM w1 w.heap.size w.heap.size size room (.slice none 0 0) (.slice none 0 0) X []:=by
 have hs:1<=size/\size<=32:=⟨by by_cases h:size<1;exact absurd (.inl h) hb;omega,by by_cases h:32<size;exact absurd (.inr (.inl h)) hb;omega⟩
 have hm:1<=room/\room<=4194304:=⟨by by_cases h:room<1;exact absurd (.inr (.inr (.inl h))) hb;omega,by by_cases h:4194304<room;exact absurd (.inr (.inr (.inr h))) hb;omega⟩
 refine ⟨⟨[],[],⟨ha,Kd.R_nil _ _ _ _ _,Kd.R_nil _ _ _ _ _,?_,FreeOk.nil,rfl,fun i o r h=>by simp at h,fun k hk=>⟨(hX k hk).1,?_⟩⟩⟩,Nat.le_refl _,hs,hm,by simp;omega⟩
 ·intro k hk h0
  exact absurd h0 (by simp)
 ·rintro (h|h|h)
  ·exact (hX k hk).2 h
  ·simp [Value.ownBlock] at h
  ·simp [Value.ownBlock] at h
theorem TreeIn.none (size:Int) {cs:Cs} {root:Int} (h:nodeAt cs root=none) (hg:CsG cs):TreeIn size cs root none:=⟨h,trivial,hg⟩
theorem nodeAt_nil (i:Int):nodeAt [] i=none:=by
 unfold nodeAt
 split<;>simp
theorem find_leaf {size:Int} {cs:Cs} {t:PT} {i:Int} (ht:IsT cs i t) (hg:Good size t) {x:Lf} (hx:x∈t.leaves) (hu : ∀y∈t.leaves,y.id=x.id->y=x):(findT (keyB x.id) x.id i t).item=⟨x.id,x.key,x.since,true⟩:=by
 have hid:=(hg.leaf_ok x hx).1
 obtain ⟨S,A,B,e1,e2,e3,e4,e5,e6,_⟩:=ins_down hid t i ht hg
 have hxs:x∈S.leaves:=by
  rw [e5] at hx
  rcases List.mem_append.1 hx with h|h
  ·rcases List.mem_append.1 h with h|h
   ·exact absurd rfl (e6 x (List.mem_append_left _ h))
   ·exact h
  ·exact absurd rfl (e6 x (List.mem_append_right _ h))
 rcases e4 with ⟨n,rfl,hs⟩|⟨n,l,r,rfl,hs,hb⟩
 ·obtain rfl:x=lfOf n:=by simpa [PT.leaves] using hxs
  have hn:(findT (keyB (lfOf n).id) (lfOf n).id i t).node=n:=e3.symm
  unfold Spot.item
  rw [hs,decide_eq_true (show n.f1=(lfOf n).id from rfl),hn]
  rfl
 ·exfalso
  obtain ⟨d,hd,hat⟩:=e2.fork_at
  obtain ⟨b,ha,_⟩:=hat x hxs
  rw [hd] at hb
  have:=(begins_at ha (keyB_bytes hid) (keyB_bytes hid)).2 (fun _ _=>rfl)
  rw [this] at hb
  cases hb
theorem first_in {size room:Int} (hs:1<=size/\size<=32) (hr:1<=room) {id key:List Int} {since:Int} (ho:BytesOk id) (hk:BytesOk key) (hb : ¬badIns id key since):
 ¬room-(usedN []:Int)<((findO (keyB id) id (-1) none).needs:Int)/\(insAll size (keyB id) id key since (findO (keyB id) id (-1) none) [])=([some (leafNd size id key since)],0):=by
 have hn:(findO (keyB id) id (-1) none).needs=1:=by
  show Spot.needs ⟨[],-1,z59,false⟩=1
  unfold Spot.needs
  rw [if_neg (fun h=>h.1 rfl)]
  rfl
 rw [hn]
 refine ⟨by show ¬room-((0:Nat):Int)<((1:Nat):Int);omega,?_⟩
 show insAll size (keyB id) id key since ⟨[],-1,z59,false⟩ []=_
 unfold insAll insStart
 rw [if_neg (fun h=>h.1 rfl)]
 rfl
theorem no_bad (cs:Cs) {id key:List Int} {since:Int} (h : ¬badIns id key since) : ¬(badRoot cs (-1)\/badIns id key since):=fun h1=>h1.elim (fun h2=>h2.1 rfl) h
theorem leaf_tree {size:Int} (hs:1<=size/\size<=32) {id key:List Int} {since:Int} (ho:BytesOk id) (hk:BytesOk key) (hb : ¬badIns id key since):TreeIn size [some (leafNd size id key since)] 0 (some (.leaf (leafNd size id key since))):=
 ⟨⟨rfl,rfl⟩,Good.leafOf (not_badIns hb ho hk),by
  unfold badIns at hb
  exact CsG.nil.put (leafNd_g hs id key since ho (by omega) (by omega))⟩
theorem lit_Cx {w:World} {g:Nat} {x:Int} {q:Nat×Nat} (h:w.heap[g]? = some (.cells #[.int .u8 x] 5 q)):Kd.C (Kd.int .u8) w (some ⟨g,0,none⟩) 1 [x]:=by
 refine Kd.C_of_reads (h1:=fun _=>rfl) (d:=0) ⟨rfl,by decide,fun _=>⟨_,rfl,fun j hj=>?_⟩⟩
 obtain rfl:j=0:=by omega
 simp [World.cell?,Addr.add,h]
theorem bytes1 (x:Int) (h:0<=x/\x<=255):BytesOk [x]:=fun y hy=>by obtain rfl:y=x:=(by simpa using hy);exact h
set_option maxHeartbeats 8000000 in
set_option maxRecDepth 100000 in
theorem awake10_calls (w:World) (hGS:GlobS w):Calls Tryz.prog 17 #[] w fun e w'=>e = .returned (.bool true)/\Below w.heap.size w w':=by
 have HGS:=z_ hGS
 have HNB:=z_ (show ¬newBad 4 9 from by unfold newBad;omega)
 have HBI:=z_ (show ¬badIns [97] [107] 1 from by unfold badIns;simp)
 clear hGS
 have kc:=fun (w:World) (C:Array Value) (n c:Nat)=>Lib.run_convert_bytes_const (P:=Tryz.prog) w 23 5 C n c Tryz.underlying23 Tryz.underlying5
 have kc2:=fun (W:World) (o:Obj) (C:Array Value) (n c:Nat)=>(by have h:=kc (W.alloc o) C n c;rw [World.size_alloc] at h;exact h:(convert 23 23 (.slice (some ⟨W.heap.size+1,0,none⟩) n c)).run Tryz.prog ((W.alloc o).alloc (.cells C 5)) = .ok (.slice (some ⟨W.heap.size+1,0,none⟩) n c) ((W.alloc o).alloc (.cells C 5 (C.size,C.size+1))))
 go_enter Tryz.func17,Tryz.ntmps17
 go_wp2_with fail
 refine (new_calls 4 9 w (by omega) (by omega) (by omega) (by omega)).mono ?_
 rintro e w1 ⟨rfl,hA,hb1⟩
 have HA:=z_ hA
 have HB1:=z_ hb1
 clear hA hb1
 obtain ⟨w2,hw2⟩ : ∃w2,w2=w1.alloc (.cells #[.int .u8 97] 5 (1,2)):=⟨_,rfl⟩
 have HB2:=z_ (show Below w1.heap.size w1 w2 from by rw [hw2];exact below_alloc (Below.refl _ _) _)
 have HZ2:=z_ (show w2.heap.size=w1.heap.size+1 from by rw [hw2];simp)
 have HI2:=z_ (show w2.heap[w1.heap.size]? = some (.cells #[.int .u8 97] 5 (1,2)) from by rw [hw2];exact heap_alloc_new w1 _)
 obtain ⟨w3,hw3⟩ : ∃w3,w3=w2.alloc (.cells #[.int .u8 107] 5 (1,2)):=⟨_,rfl⟩
 have HB3:=z_ (show Below w2.heap.size w2 w3 from by rw [hw3];exact below_alloc (Below.refl _ _) _)
 have HS2:=z_ (show w2.heap.size=w1.heap.size+1/\w3.heap.size=w2.heap.size+1 from ⟨HZ2.out,by rw [hw3];simp⟩)
 have HI3:=z_ (show w3.heap[w2.heap.size]? = some (.cells #[.int .u8 107] 5 (1,2)) from by rw [hw3];exact heap_alloc_new w2 _)
 have HV1:=z_ (show BX w3 (fun k=>w1.heap.size<=k/\k<w3.heap.size) (.slice (some ⟨w1.heap.size,0,none⟩) ([97]:List Int).length 1) [97] from Kd.V_mk (Nat.le_refl _) (fun W' hW'=>lit_Cx ((hW' w1.heap.size ⟨Nat.le_refl _,by have:=HS2.out;omega⟩ (by have:=HS2.out;omega)).trans (blk_below HI2.out HB3.out))))
 have HV2:=z_ (show BX w3 (fun k=>w1.heap.size<=k/\k<w3.heap.size) (.slice (some ⟨w2.heap.size,0,none⟩) ([107]:List Int).length 1) [107] from Kd.V_mk (Nat.le_refl _) (fun W' hW'=>lit_Cx ((hW' w2.heap.size ⟨by have:=HS2.out;omega,by have:=HS2.out;omega⟩ (by have:=HS2.out;omega)).trans HI3.out)))
 have HBW:=z_ (show Below w.heap.size w w3 from HB1.out.trans ((below_step HB2.out HB3.out).mono HB1.out.size))
 have HM3:=z_ (show ArenaM w3 w.heap.size w.heap.size 4 9 (.slice none 0 0) (.slice none 0 0) (fun k=>w1.heap.size<=k/\k<w3.heap.size) [] from ArenaM.start HNB.out (HA.out.below (below_step HB2.out HB3.out)) HBW.out _ (fun k hk=>⟨hk.2,by have:=HA.out.lt;omega⟩))
 have HP3:=z_ (show InsPre w3 w.heap.size w.heap.size 4 9 (.slice none 0 0) (.slice none 0 0) (fun k=>w1.heap.size<=k/\k<w3.heap.size) [] (some ⟨w1.heap.size,0,none⟩) (some ⟨w2.heap.size,0,none⟩) 1 1 [97] [107] from
  ⟨HM3.out,CsOk.nil,(fun n h=>by cases h),HV1.out,HV2.out,bytes1 97 (by omega),bytes1 107 (by omega),by decide,by decide,fun W hW=>GlobS.of HGS.out (HBW.out.trans hW)⟩)
 have HEQ:=z_ (And.intro hw2 hw3)
 clear hw2 hw3
 go_wp2_with fail
 rw [<-HEQ.out.1,<-HEQ.out.2,show w1.heap.size+1=w2.heap.size from HS2.out.1.symm]
 clear HEQ
 refine (insert_calls HP3.out (-1) 1 none (TreeIn.none 4 (nodeAt_nil _) CsG.nil)).mono ?_
 rintro e w4 ⟨i,er,cs',hout,rfl,hA4⟩
 obtain ⟨lf,hlf⟩ : ∃lf,lf=leafNd 4 [97] [107] 1:=⟨_,rfl⟩
 have hfi:=first_in (size:=4) (room:=9) (by omega) (by omega) (bytes1 97 (by omega)) (bytes1 107 (by omega)) HBI.out
 rw [<-hlf] at hfi
 obtain ⟨rfl,rfl,rfl⟩:i=0/\er=0/\cs' = [some lf]:=by
  rcases hout with ⟨h1,_⟩|⟨_,h1,_⟩|⟨_,_,h1,h2,h3⟩
  ·exact absurd h1 (no_bad _ HBI.out)
  ·exact absurd h1 hfi.1
  ·rw [hfi.2] at h1 h3
   exact ⟨h1,h2,h3⟩
 obtain ⟨vc',vf',X',hM,_,_,_,hb4⟩:=hA4
 have HM4:=z_ hM
 have HT4:=z_ (show TreeIn 4 [some lf] 0 (some (.leaf lf)) from by rw [hlf];exact leaf_tree (by omega) (bytes1 97 (by omega)) (bytes1 107 (by omega)) HBI.out)
 have HB4:=z_ (HBW.out.trans hb4)
 have HIT:=z_ (show (findO (keyB [97]) [97] 0 (some (.leaf lf))).item=⟨[97],[107],1,true⟩ from find_leaf (x:=⟨[97],[107],1⟩) HT4.out.at_ HT4.out.good (by rw [hlf];exact List.mem_singleton.2 rfl) (fun y hy _=>by rw [hlf] at hy;exact List.mem_singleton.1 hy))
 clear hout hM hb4 hfi hlf
 obtain ⟨w5,hw5⟩ : ∃w5,w5=w4.alloc (.cells #[.int .u8 97] 5 (1,2)):=⟨_,rfl⟩
 have HB5:=z_ (show Below w4.heap.size w4 w5 from by rw [hw5];exact below_alloc (Below.refl _ _) _)
 have HC5:=z_ (show Kd.C (Kd.int .u8) w5 (some ⟨w4.heap.size,0,none⟩) ([97]:List Int).length [97] from lit_Cx (show w5.heap[w4.heap.size]? = some (.cells #[.int .u8 97] 5 (1,2)) from by rw [hw5];exact heap_alloc_new w4 _))
 have HEQ:=z_ hw5
 clear hw5
 go_wp2_with fail
 rw [<-HEQ.out]
 clear HEQ
 refine (get_calls (HM4.out.below HB5.out) 0 (some (.leaf lf)) HT4.out (some ⟨w4.heap.size,0,none⟩) 1 [97] HC5.out (by decide) (bytes1 97 (by omega))).mono ?_
 rintro e w6 ⟨hI,hb⟩
 rw [HIT.out] at hI
 obtain ⟨A1,A2,c1,c2,rfl,x1,x2⟩:=hI
 have HX6:=z_ x2
 have HB6:=z_ (below_step HB5.out hb)
 clear x1 x2 hb
 have v1:=Kd.C_string (P:=Tryz.prog) (A:=A2) (c:=c2) Tryz.underlying23 Tryz.underlying5 Tryz.underlying9 (Kd.C_below (Kd.V_reads' HX6.out).2.2 (below_alloc (Below.refl w6.heap.size w6) (.cells #[.slice A1 ([97]:List Int).length c1,.slice A2 ([107]:List Int).length c2,.int .i64 1] 40)))
 simp only [List.length_cons,List.length_nil,Nat.zero_add] at v1
 have hso:(strOfNums [107]).toList=(⟨#[107]⟩:ByteArray).toList:=by
  rw [ByteArray.toList_eq,ByteArray.toList_eq,strOfNums_data]
  rfl
 have hse:((strOfNums [107]).toList==(⟨#[107]⟩:ByteArray).toList)=true:=by rw [hso];simp
 have hse3:((strOfNums [107]).toList=(⟨#[107]⟩:ByteArray).toList)=True:=eq_true hso
 go_wp2_with fail
 clear v1 hso hse hse3 kc kc2
 refine (deep_calls (HM4.out.below (below_alloc HB6.out _)) 0 (some (.leaf lf)) HT4.out).mono ?_
 rintro e w8 ⟨rfl,hb⟩
 have HB8:=z_ (HB4.out.trans ((below_step (below_alloc HB6.out _) hb).mono HB4.out.size))
 clear hb
 rw [show ((heightO (some (.leaf lf)):Nat):Int)=0 from rfl]
 go_wp2_with fail
 go_ret
 exact ⟨rfl,HB8.out⟩
theorem keyB_take (id:List Int):keyB (id.take 255)=keyB id:=by
 unfold keyB
 rw [List.length_take,List.take_take,Nat.min_self]
 congr 2
 omega
theorem way_any {size:Int} {cs:Cs} {root:Int} {t:Option PT} (h:TreeIn size cs root t) (id:List Int) (ho:BytesOk id):(wayO (keyB id) root t).1.length<=8*(keyB id).length:=by
 rw [<-keyB_take id]
 exact h.good.way ⟨fun x hx=>ho x (List.mem_of_mem_take hx),by rw [List.length_take];omega⟩ root
theorem CsG.node {cs:Cs} (h:CsG cs) : ∀n,some n∈cs->BytesOk n.f1/\BytesOk n.f5/\n.f4<=9223372036854775807:=fun n hn=>⟨(h n hn).o1,(h n hn).o5,(h n hn).f4⟩
set_option maxHeartbeats 8000000 in
set_option maxRecDepth 100000 in
theorem same10_calls {w:World} {base p q:Nat} {size room:Int} {vc vf vl:Value} {X:Nat->Prop} {cs:Cs} (h:Pr w base p q size room vc vf vl X cs cs) (root:Int) (t:Option PT) (ht:TreeIn size cs root t) (hl:(leavesO t).length<=1000000) (hG : ∀W,Below w.heap.size w W->GlobS W):
 Calls Tryz.prog 16 #[.pointer (some ⟨p,0,none⟩),.pointer (some ⟨q,0,none⟩),.int .i64 root] w fun e w'=>e = .returned (.bool true)/\Below w.heap.size w w':=by
 have HP:=z_ h
 have HT:=z_ ht
 have HL:=z_ hl
 have HG:=z_ hG
 have HLN:=z_ (show ∀n,nodeAt cs root=some n->n.f9.length<=65535 from fun n hn=>(ht.g.ok.at root n hn).1.2.2.2)
 clear h ht hl hG
 go_enter Tryz.func16,Tryz.ntmps16
 go_wp2_with fail
 refine (items_calls HP.out.a root t HT.out HL.out).mono ?_
 rintro e w1 ⟨vI,rfl,hN,hb⟩
 obtain ⟨its,hits⟩ : ∃x,x=(leavesO t).map sOf:=⟨_,rfl⟩
 rw [<-hits] at hN
 have HIT:=z_ hits
 have HIL:=z_ (show its.length<=1000000 from by rw [hits,List.length_map];exact HL.out)
 obtain ⟨AI,cI,rfl⟩:=Kd.N_slice hN
 have HN1:=z_ hN
 have HB1:=z_ hb
 clear hN hb hits
 go_wp2_with fail
 refine (ritemsO_calls (HP.out.r.below HB1.out) root t HT.out HL.out).mono ?_
 rintro e w2 ⟨vJ,rfl,hN,hb⟩
 rw [<-HIT.out] at hN
 obtain ⟨AJ,cJ,rfl⟩:=Kd.N_slice hN
 have HN2:=z_ (Kd.N_reads' hN)
 have HM2:=z_ (Kd.N_reads' (Kd.N_below HN1.out hb))
 have HB2:=z_ (below_step HB1.out hb)
 clear hN hb
 go_wp2_with fail
 refine (annalsref10_SameItems.calls (its.length+1) AI cI its AJ cJ its true w2 HM2.out.2.2 HM2.out.2.1 HN2.out.2.2 HN2.out.2.1 (same_f its (by have:=HIL.out;omega))).mono ?_
 rintro e w3 ⟨rfl,hb⟩
 have HB3:=z_ (below_step HB2.out hb)
 clear hb
 go_wp2_with fail
 refine (deep_calls (HP.out.a.below HB3.out) root t HT.out).mono ?_
 rintro e w4 ⟨rfl,hb⟩
 have HB4:=z_ (below_step HB3.out hb)
 clear hb
 obtain ⟨d,hd⟩ : ∃d,d=(heightO t:Int):=⟨_,rfl⟩
 rw [<-hd]
 have HD:=z_ hd
 clear hd
 go_wp2_with fail
 refine (rdeepO_calls (HP.out.r.below HB4.out) root t HT.out).mono ?_
 rintro e w5 ⟨rfl,hb⟩
 rw [<-HD.out]
 have HB5:=z_ (below_step HB4.out hb)
 clear hb
 go_wp2_with fail
 refine (hashA_calls (HP.out.a.below HB5.out) root HLN.out (HG.out _ HB5.out)).mono ?_
 rintro e w6 ⟨⟨vK,rfl,hH⟩,hb⟩
 obtain ⟨hs,hhs⟩ : ∃x,x=hashAt size cs root:=⟨_,rfl⟩
 rw [<-hhs] at hH
 have HHS:=z_ hhs
 obtain ⟨AK,cK,rfl,hcK,hFK⟩:=hH
 have HB6:=z_ (below_step HB5.out hb)
 have HK6:=z_ (And.intro hcK (Kd.F_now hFK))
 clear hb hcK hFK hhs
 go_wp2_with fail
 refine (rhashA_calls (HP.out.r.below HB6.out) root HLN.out).mono ?_
 rintro e w7 ⟨⟨vK,rfl,hH⟩,hb⟩
 rw [<-HHS.out] at hH
 obtain ⟨AL,cL,rfl,hcL,hFL⟩:=hH
 have HB7:=z_ (below_step HB6.out hb)
 have HK7:=z_ (And.intro hcL (And.intro (Kd.F_now hFL) (Kd.C_below HK6.out.2 hb)))
 clear hb hcL hFL
 go_wp2_with fail
 refine (bytes_Equal.calls AK cK hs AL cL hs true w7 HK7.out.2.2 HK6.out.1 HK7.out.2.1 HK7.out.1 (equal_same hs)).mono ?_
 rintro e w8 ⟨rfl,hd8⟩
 have HB8:=z_ (below_step HB7.out hd8.below)
 clear hd8
 go_wp2_with fail
 go_ret
 exact ⟨rfl,HB8.out⟩
theorem lives_step {cs cs':Cs} {rm root i er since:Int} {t:Option PT} {id key:List Int} (ht:TreeIn 4 cs root t) (o1:BytesOk id) (o2:BytesOk key) (h:InsOut cs 4 rm root id key since t i er cs'):
 (er=0/\∃t',TreeIn 4 cs' i (some t')/\t'.leaves.length<=(leavesO t).length+1)\/(er≠0/\cs'=cs):=by
 rcases h with ⟨_,_,rfl,rfl⟩|⟨_,_,_,rfl,rfl⟩|⟨h1,h2,rfl,rfl,rfl⟩
 ·exact .inr ⟨by decide,rfl⟩
 ·exact .inr ⟨by decide,rfl⟩
 ·obtain ⟨t',k1,_,_,A,S,B,N,e1,e2,_,e4⟩:=ht.insert (room:=rm) (by omega) o1 o2 (fun hb=>h1 (.inr hb)) h2
  refine .inl ⟨rfl,t',k1,?_⟩
  rw [e1,e2]
  simp only [List.length_append]
  rcases e4 with ⟨_,rfl⟩|⟨_,rfl|rfl⟩
  ·simp only [List.length_cons,List.length_nil]
   omega
  ·simp only [List.length_cons]
   omega
  ·simp only [List.length_append,List.length_cons,List.length_nil]
   omega
theorem room_ok (y:Int):1<=wrap64 (1+wrap64 ((IntKind.u64.wrap y).tmod 400))/\wrap64 (1+wrap64 ((IntKind.u64.wrap y).tmod 400))<=400:=by
 have h:0<=IntKind.u64.wrap y:=by
  have:IntKind.u64.wrap y=y%18446744073709551616:=by simp [IntKind.wrap,IntKind.bits,IntKind.signed]
  omega
 have h1:=Int.tmod_nonneg 400 h
 have h2:=Int.tmod_lt_of_pos (IntKind.u64.wrap y) (show (0:Int)<400 by decide)
 rw [wrap64_id ((IntKind.u64.wrap y).tmod 400) (by omega),wrap64_id _ (by omega)]
 omega
def liv10_T:Bool×List (List Nat×List Nat):=(true,[([],[]),([],[]),([],[]),([2],[2]),([0,1,3],[0,1,3]),([],[]),([],[]),([],[]),([7],[7]),([5,6,8,4],[5,6,8]),([4,9],[4,9])])
def liv10_B:List Nat:=[0,0,0,4,15,0,0,0,128,511,1023]
theorem liv10_tab:rtab .any (opsOf Tryz.f3 10)=liv10_T:=by kernel_rfl
theorem liv10_bits:waitsOk liv10_T.2 liv10_B=true:=by kernel_rfl
set_option maxHeartbeats 16000000 in
set_option maxRecDepth 100000 in
theorem ptreeLives_true (rm0:Int) (A0:Option Addr) (c0:Nat) (l0:List S34) (A2:Option Addr) (c2:Nat) (id:List Int) (w:World)
 (hr0:Kd.C k34 w A0 l0.length l0) (hc0:l0.length<=c0) (o0 : ∀x∈l0,BytesOk x.f0/\BytesOk x.f1) (h2:Kd.C (Kd.int .u8) w A2 id.length id) (hc2:id.length<=c2) (o2:BytesOk id) (hGS:GlobS w):
 Calls Tryz.prog 3 #[.int .i64 rm0,.slice A0 l0.length c0,.slice A2 id.length c2] w fun e w'=>e = .returned (.bool true)/\Below w.heap.size w w':=by
 have HGS:=z_ hGS
 have HV0:=z_ (V_of_C59 hr0 hc0)
 have HV2:=z_ (V_of_C 5 h2 hc2)
 have HO:=z_ (And.intro o0 o2)
 obtain ⟨rm,hrm⟩ : ∃rm,rm=wrap64 (1+wrap64 ((IntKind.u64.wrap rm0).tmod 400)):=⟨_,rfl⟩
 have HRM:=z_ (show 1<=rm/\rm<=400 from by rw [hrm];exact room_ok rm0)
 have HNB:=z_ (show ¬newBad 4 rm from by have:=HRM.out;unfold newBad;omega)
 clear hGS hr0 hc0 o0 h2 hc2 o2
 go_enter Tryz.func3,Tryz.ntmps3
 go_wp2_with fail
 rw [<-hrm]
 clear hrm
 refine (new_calls 4 rm w (by omega) (by omega) HRM.out.1 (by have:=HRM.out;omega)).mono ?_
 rintro e w1 ⟨rfl,hA,hb1⟩
 have HA:=z_ hA
 have HB1:=z_ hb1
 clear hA hb1
 go_wp2_with fail
 refine (rnew_calls 4 rm w1 HNB.out).mono ?_
 rintro e w2 ⟨rfl,hQ,hb2⟩
 have HP0:=z_ (Pr.start HNB.out HA.out HB1.out hQ hb2)
 have HB2:=z_ (show Below w.heap.size w w2 from HB1.out.trans (hb2.mono HB1.out.size))
 have HZ2:=z_ (show w.heap.size<w1.heap.size/\w1.heap.size<w2.heap.size from ⟨HA.out.lt,HP0.out.r.own _ (.inl rfl)⟩)
 clear hQ hb2 HA
 obtain ⟨p,hp⟩ : ∃p,p=w.heap.size:=⟨_,rfl⟩
 obtain ⟨q,hq⟩ : ∃q,q=w1.heap.size:=⟨_,rfl⟩
 obtain ⟨base,hbase⟩ : ∃b,b=w.heap.size:=⟨_,rfl⟩
 replace HP0:=z_ (show Pr w2 base p q 4 rm (.slice none 0 0) (.slice none 0 0) (.slice none 0 0) (fun k=>k<base) [] [] from by rw [hp,hq,hbase];exact HP0.out)
 rw [<-hp,<-hq]
 have HBE:=z_ (show base=w.heap.size/\p=base/\q=w1.heap.size from ⟨hbase,by rw [hp,hbase],hq⟩)
 clear hp hq hbase
 go_wp2_with fail
 refine (annalslaw10_few.calls (l0.length+1) (fun k=>k<w.heap.size) A0 c0 l0 (fewL l0) w2 (Kd.V_below HV0.out HB2.out) (few_f l0 (Kd.C_max (Kd.V_reads' HV0.out).2.2))).mono ?_
 rintro e w3 ⟨v1,rfl,hN3,hb3⟩
 obtain ⟨Af,cf,rfl⟩:=Kd.N_slice hN3
 obtain ⟨fl,hfl⟩ : ∃fl,fl=fewL l0:=⟨_,rfl⟩
 rw [<-hfl] at hN3
 rw [<-hfl]
 have HFL:=z_ (show fl.length<=30/\∀x∈fl,BytesOk x.f0/\x.f0.length<=30/\BytesOk x.f1/\x.f1.length<=100 from by
  rw [hfl]
  unfold fewL
  refine ⟨by rw [List.length_map,List.length_take];omega,fun x hx=>?_⟩
  obtain ⟨y,hy,rfl⟩:=List.mem_map.1 hx
  have:=HO.out.1 y (List.mem_of_mem_take hy)
  exact ⟨fun z hz=>this.1 z (List.mem_of_mem_take hz),by show (y.f0.take 30).length<=30;rw [List.length_take];omega,fun z hz=>this.2 z (List.mem_of_mem_take hz),by show (y.f1.take 100).length<=100;rw [List.length_take];omega⟩)
 obtain ⟨X0,hX0⟩ : ∃X0:Nat->Prop,X0=fun k=>k<base\/(k<w3.heap.size/\k≠p/\k≠q):=⟨_,rfl⟩
 have HP3:=z_ (show Pr w3 base p q 4 rm (.slice none 0 0) (.slice none 0 0) (.slice none 0 0) X0 [] [] from by
  have h3:=HP0.out.below hb3
  have hn : ∀k,k<w3.heap.size/\k≠p/\k≠q->k<w3.heap.size/\¬OwnS p (.slice none 0 0) (.slice none 0 0) k/\¬OwnQ q (.slice none 0 0) k:=fun k hk=>⟨hk.1,fun ho=>by
   rcases ho with h|h|h
   ·exact hk.2.1 h
   ·simp [Value.ownBlock] at h
   ·simp [Value.ownBlock] at h,fun ho=>by
   rcases ho with h|h
   ·exact hk.2.2 h
   ·simp [Value.ownBlock] at h⟩
  rw [hX0]
  exact ⟨h3.a.more _ (fun k hk=>⟨(hn k hk).1,(hn k hk).2.1⟩),h3.r.more _ (fun k hk=>⟨(hn k hk).1,(hn k hk).2.2⟩),h3.apart⟩)
 have HX0:=z_ (show ∀k,k<w.heap.size\/w2.heap.size<=k->k<w3.heap.size->X0 k from fun k hk hl=>by
  rw [hX0]
  have h1:=HBE.out
  have h2:=HZ2.out
  by_cases hb:k<base
  ·exact .inl hb
  ·exact .inr (by omega))
 have HN3:=z_ (show Kd.N k34 34 w3 w2.heap.size X0 (.slice Af fl.length cf) fl from Kd.N_mono (Kd.N_bound hN3) (fun k hk=>HX0.out k hk.1 hk.2))
 have HVI:=z_ (show BX w3 X0 (.slice A2 id.length c2) id from Kd.V_mono (Kd.V_below HV2.out (HB2.out.trans (hb3.mono HB2.out.size))) (fun k hk=>HX0.out k (.inl hk) (by have:=HB2.out.size;have:=hb3.size;omega)))
 have HG:=z_ (show ∀W,Below base w3 W->GlobS W from fun W hW=>by
  rw [HBE.out.1] at hW
  exact GlobS.of HGS.out ((HB2.out.trans (hb3.mono HB2.out.size)).trans hW))
 have HB3:=z_ (show Below base w w3 from by rw [HBE.out.1];exact HB2.out.trans (hb3.mono HB2.out.size))
 clear hN3 hb3 hfl hX0
 go_wp2_with fail
 go_loopg [11,46] (fl.length+1) (fun kq v11 v46 wr=>∃(j:Nat) (root:Int) (t:Option PT) (cs:Cs) (vc vf vl:Value) (X:Nat->Prop),v11 = .int .i64 root/\v46 = .int .i64 (j:Int)/\Aside0 (kq+j=fl.length+1/\j<=fl.length)/\Aside0 (TreeIn 4 cs root t/\(t=none->root = -1)/\(leavesO t).length<=j)/\Aside0 (Step w3 wr base p q 4 rm vc vf vl X0 X cs cs))
 case atStart=>
  exact ⟨0,-1,none,[],_,_,_,X0,rfl,by first|rfl|simp,⟨rfl,Nat.zero_le _⟩,⟨TreeIn.none 4 (nodeAt_nil _) CsG.nil,fun _=>rfl,Nat.le_refl _⟩,⟨HP3.out,fun _ h=>h,Below.refl _ _,fun _ _=>rfl⟩⟩
 case round=>
  obtain ⟨j,root,t,cs,vc,vf,vl,X,rfl,rfl,HK,HT,HST⟩:=hrel
  by_cases hlt:j<fl.length
  ·have hd:decide ((j:Int)<(fl.length:Int))=true:=by simp;omega
   have hd2:decide (0<=(j:Int))=true:=by simp
   obtain ⟨k1,rfl⟩ : ∃k1,gk=k1+1:=⟨gk-1,by have:=HK.out;omega⟩
   have hNr:=Kd.N_step HN3.out (w1:=wr) (fun k hk hl=>HST.out.same k hk)
   obtain ⟨gb,cap,he,hgb,_,_⟩:=Kd.N_form hNr (by omega)
   injection he with e1 e2 e3
   subst e1 e3
   obtain ⟨c,hcl,hFK,hcc,hfr⟩:=Kd.N_elem hNr z34 (j:Int) (by omega) (by omega)
   obtain ⟨x,hx⟩ : ∃x,x=fl.getD ((j:Int)).toNat z34:=⟨_,rfl⟩
   have hxm:x∈fl:=by rw [hx,Int.toNat_natCast,List.getD_eq_getElem?_getD,List.getElem?_eq_getElem hlt];exact List.getElem_mem hlt
   rw [<-hx] at hFK
   obtain ⟨B1,d1,B2,d2,rfl,l1,F1,l2,F2⟩:=k34_openF hFK
   have x0:=hcc 0 _ rfl
   have x1:=hcc 1 _ rfl
   have x2:=hcc 2 _ rfl
   simp only [show k34.sz=3 from rfl,Int.toNat_natCast,Nat.add_zero] at x0 x1 x2
   have HXO:=z_ (HFL.out.2 x hxm)
   obtain ⟨w5,hw5⟩ : ∃w5,w5=wr.alloc (.cells #[.slice B1 x.f0.length d1,.slice B2 x.f1.length d2,.int .i64 x.f2] 34):=⟨_,rfl⟩
   have HB5:=z_ (show Below wr.heap.size wr w5 from by rw [hw5];exact below_alloc (Below.refl _ _) _)
   have HP5:=z_ (show w5.heap[wr.heap.size]? = some (.cells #[.slice B1 x.f0.length d1,.slice B2 x.f1.length d2,.int .i64 x.f2] 34 (0,0)) from by rw [hw5];exact heap_alloc_new wr _)
   have HS5:=z_ (HST.out.below HB5.out)
   have HFX:=z_ (show BX w5 X (.slice B1 x.f0.length d1) x.f0/\BX w5 X (.slice B2 x.f1.length d2) x.f1 from
    ⟨Kd.V_below ⟨_,_,rfl,l1,Kd.F_mono F1 (fun k hk=>HST.out.sub k hk.1)⟩ HB5.out,Kd.V_below ⟨_,_,rfl,l2,Kd.F_mono F2 (fun k hk=>HST.out.sub k hk.1)⟩ HB5.out⟩)
   clear hx hFK hcc hfr hcl hxm hNr l1 F1 l2 F2
   go_wp2_with fail
   rw [<-hw5]
   clear hw5 x0 x1 x2
   obtain ⟨gp,hgp⟩ : ∃g,g=wr.heap.size:=⟨_,rfl⟩
   rw [<-hgp] at HP5
   rw [<-hgp]
   have HGP:=z_ hgp
   clear hgp
   have HNN:=z_ (show needsO root t (findO (keyB x.f0) x.f0 root t)=((findO (keyB x.f0) x.f0 root t).needs:Int) from by
    unfold needsO
    rw [if_neg (fun h=>by
     cases t with
     | none=>exact h.1 (HT.out.2.1 rfl)
     | some t=>cases h.2)])
   refine start_ (n:=11) (S:=fun w'=>w'.heap[gp]? = some (.cells #[.slice B1 x.f0.length d1,.slice B2 x.f1.length d2,.int .i64 x.f2] 34 (0,0))) (ds:=[]) (bt_ 11 0) (by kernel_rfl) rfl rfl ?hs0 (fun hHeld=>?_)
   case hs0=>exact blk_below HP5.out (below_drew (Below.refl _ _))
   refine with_tabW liv10_tab liv10_bits (fun HT_ HW_=>?_)
   have HD6:=z_ (show Below w5.heap.size w5 w5.drew from below_drew (Below.refl _ _))
   generalize hgw:w5.drew=w6 at HD6 hHeld ⊢
   clear hgw
   refine pure_ (i:=0) (N:=some 50) (v:=?_) (a':=?_) (bt_ 11 1) rfl rfl (any_of HT_.out (by kernel_rfl)) (fun _ _ _ h=>h) (Or.inl ⟨by rfl,?_⟩) ?_ ?_
   rotate_left
   ·intro w'
    go_simp
    with_reducible rfl
   rotate_left
   ·simp only [pq_]
    rfl
   refine pure_ (i:=1) (N:=some 51) (v:=?_) (a':=?_) (bt_ 11 3) rfl rfl (any_of HT_.out (by kernel_rfl)) (fun _ _ _ h=>h) (Or.inl ⟨by rfl,?_⟩) ?_ ?_
   rotate_left
   ·intro w'
    go_simp
    with_reducible rfl
   rotate_left
   ·simp only [pq_]
    rfl
   refine pure_ (i:=2) (N:=some 52) (v:=?_) (a':=?_) (bt_ 11 7) rfl rfl (any_of HT_.out (by kernel_rfl)) (fun _ _ _ h=>h) (Or.inl ⟨by rfl,?_⟩) ?_ ?_
   rotate_left
   ·intro w'
    go_simp
    with_reducible rfl
   rotate_left
   ·simp only [pq_]
    rfl
   refine take_ (i:=3) (N:=some 53) (v:=?_) (a':=?_) (bt_ 11 15) rfl rfl (take_ofW HT_.out HW_.out (by kernel_rfl)) (fun _ _ _ h=>h) (Or.inl ⟨by rfl,?_⟩) hHeld ?_ ?_
   rotate_left
   ·rintro w' s0
    have k0:=blk_cell s0 0
    simp at k0
    go_simp
    with_reducible rfl
   rotate_left
   ·simp only [pq_]
    rfl
   refine pure_ (i:=5) (N:=some 55) (v:=?_) (a':=?_) (bt_ 11 47) rfl rfl (any_of HT_.out (by kernel_rfl)) (fun _ _ _ h=>h) (Or.inl ⟨by rfl,?_⟩) ?_ ?_
   rotate_left
   ·intro w'
    go_simp
    with_reducible rfl
   rotate_left
   ·simp only [pq_]
    rfl
   refine pure_ (i:=6) (N:=some 56) (v:=?_) (a':=?_) (bt_ 11 111) rfl rfl (any_of HT_.out (by kernel_rfl)) (fun _ _ _ h=>h) (Or.inl ⟨by rfl,?_⟩) ?_ ?_
   rotate_left
   ·intro w'
    go_simp
    with_reducible rfl
   rotate_left
   ·simp only [pq_]
    rfl
   refine pure_ (i:=7) (N:=some 57) (v:=?_) (a':=?_) (bt_ 11 239) rfl rfl (any_of HT_.out (by kernel_rfl)) (fun _ _ _ h=>h) (Or.inl ⟨by rfl,?_⟩) ?_ ?_
   rotate_left
   ·intro w'
    go_simp
    with_reducible rfl
   rotate_left
   ·simp only [pq_]
    rfl
   refine take_ (i:=8) (N:=some 58) (v:=?_) (a':=?_) (bt_ 11 495) rfl rfl (take_ofW HT_.out HW_.out (by kernel_rfl)) (fun _ _ _ h=>h) (Or.inl ⟨by rfl,?_⟩) hHeld ?_ ?_
   rotate_left
   ·rintro w' s0
    have k0:=blk_cell s0 0
    simp at k0
    go_simp
    with_reducible rfl
   rotate_left
   ·simp only [pq_]
    rfl
   refine one_ (i:=4) (N:=some 54) (bt_ 11 511) rfl rfl (one_of HT_.out (by kernel_rfl)) (by decide) (fun K hK=>?_)
   refine goes_ Tryz.func7 (by kernel_rfl) rfl #[.pointer (some ⟨p,0,none⟩),.int .i64 root,.slice B1 x.f0.length d1] (by rfl) rfl rfl (by (try simp only [List.map_toArray,List.map_cons,List.map_nil]);first|done|rfl) ?_
   with_reducible refine (pneeds_calls (HS5.out.pr.a.below HD6.out) root t HT.out.1 HT.out.2.1 B1 d1 x.f0 (Kd.C_below (Kd.V_reads' HFX.out.1).2.2 HD6.out) (Kd.V_reads' HFX.out.1).2.1 HXO.out.1 (HG.out _ (HS5.out.below HD6.out).low)).mono ?_
   rintro e w7 ⟨rfl,hb⟩
   have HB7:=z_ (below_step HD6.out hb)
   clear hb
   refine ⟨_,rfl,?_⟩
   refine hK.out _ _ (blk_below HP5.out HB7.out) (fun hHeld=>?_)
   clear hK K
   refine norm_ (a':=?_) ?_ ?_
   rotate_left
   ·show Act.put _ (some 54) _=_
    simp only [pq_]
    rfl
   refine one_ (i:=9) (N:=some 59) (bt_ 11 1023) rfl rfl (one_of HT_.out (by kernel_rfl)) (by decide) (fun K hK=>?_)
   refine goes_ Tryz.func8 (by kernel_rfl) rfl #[.pointer (some ⟨q,0,none⟩),.int .i64 root,.slice B1 x.f0.length d1] (by rfl) rfl rfl (by (try simp only [List.map_toArray,List.map_cons,List.map_nil]);first|done|rfl) ?_
   with_reducible refine (rneeds_calls (HS5.out.pr.r.below HB7.out) HT.out.1.g.ok root B1 d1 x.f0 (Kd.C_below (Kd.V_reads' HFX.out.1).2.2 HB7.out) (Kd.V_reads' HFX.out.1).2.1 HXO.out.1 HT.out.1.g.node t HT.out.1.at_ (way_any HT.out.1 x.f0 HXO.out.1) (nodeAt_neg cs (-1) (by omega))).mono ?_
   rintro e w8 ⟨rfl,hb⟩
   rw [HNN.out]
   have HB8:=z_ (below_step HB7.out hb)
   clear hb
   refine ⟨_,rfl,?_⟩
   refine hK.out _ _ (blk_below HP5.out HB8.out) (fun hHeld=>?_)
   clear hK K
   refine norm_ (a':=?_) ?_ ?_
   rotate_left
   ·show Act.put _ (some 59) _=_
    simp only [pq_]
    rfl
   refine pure_ (i:=10) (N:=some 60) (v:=?_) (a':=?_) (bt_ 11 2047) rfl rfl (any_of HT_.out (by kernel_rfl)) (fun _ _ _ h=>h) (Or.inl ⟨by rfl,?_⟩) ?_ ?_
   rotate_left
   ·intro w'
    go_simp
    with_reducible rfl
   rotate_left
   ·simp only [pq_]
    rfl
   refine done_ (done_of HT_.out (by kernel_rfl)) ?_
   have HS8:=z_ (HS5.out.below HB8.out)
   have HP8:=z_ (blk_below HP5.out HB8.out)
   have HF8:=z_ (show BX w8 X (.slice B1 x.f0.length d1) x.f0/\BX w8 X (.slice B2 x.f1.length d2) x.f1 from ⟨Kd.V_below HFX.out.1 HB8.out,Kd.V_below HFX.out.2 HB8.out⟩)
   have HPRE:=z_ (show InsPre w8 base p 4 rm vc vf X cs B1 B2 d1 d2 x.f0 x.f1 from
    ⟨HS8.out.pr.a,HT.out.1.g.ok,fun n hn=>(HT.out.1.g n hn).h9,HF8.out.1,HF8.out.2,HXO.out.1,HXO.out.2.2.1,by have:=HXO.out.2.1;omega,by have:=HXO.out.2.2.2;omega,fun W hW=>HG.out W (HS8.out.low.trans hW)⟩)
   have k0:=blk_cell HP8.out 0
   have k1':=blk_cell HP8.out 1
   have k2':=blk_cell HP8.out 2
   simp at k0 k1' k2'
   go_wp2_with fail
   clear k0 k1' k2'
   refine (insert_calls HPRE.out root x.f2 t HT.out.1).mono ?_
   rintro e w9 ⟨i,er,cs',hout,rfl,hA9⟩
   have hgp9:w9.heap[gp]? = w8.heap[gp]? := by
    obtain ⟨_,_,_,_,_,_,hk,_⟩:=hA9
    exact hk.2 gp (blk_lt HP8.out) (fun ho=>by have h1:=HST.out.pr.a.own gp ho;have h2:=HGP.out;omega)
   have HP9:=z_ (hgp9.trans HP8.out)
   obtain ⟨vc9,vf9,X9,hs9⟩:=HS8.out.pr.arena hA9
   have HS9:=z_ hs9
   have HRI:=z_ (show RefPre w9 base q 4 rm vl X9 cs B1 B2 d1 d2 x.f0 x.f1 from
    ⟨hs9.pr.r,HT.out.1.g.ok,hs9.bx HF8.out.1,hs9.bx HF8.out.2,HXO.out.1,HXO.out.2.2.1,by have:=HXO.out.2.1;omega,by have:=HXO.out.2.2.2;omega,HT.out.1.g.node⟩)
   have HOUT:=z_ hout
   clear hout hA9 hs9 hgp9
   have k0:=blk_cell HP9.out 0
   have k1':=blk_cell HP9.out 1
   have k2':=blk_cell HP9.out 2
   simp at k0 k1' k2'
   go_wp2_with fail
   clear k0 k1' k2'
   refine (rinsert_calls HRI.out root x.f2 t HT.out.1).mono ?_
   rintro e w10 ⟨i2,er2,cs2,hout2,rfl,hA10⟩
   obtain ⟨rfl,rfl,rfl⟩:=HOUT.out.same hout2
   obtain ⟨vl10,X10,hs10⟩:=HS9.out.pr.ref hA10
   have HS10:=z_ (HS8.out.trans (HS9.out.trans hs10))
   have hlv:=lives_step HT.out.1 HXO.out.1 HXO.out.2.2.1 hout2
   have hw:wrap64 ((j:Int)+1)=((j+1:Nat):Int):=by rw [wrap64_id _ (by have:=HFL.out.1;omega)];omega
   clear hout2 hA10 hs10
   rcases hlv with ⟨rfl,t1,h1,h2⟩|⟨hne,hcs⟩
   ·obtain ⟨u,hu⟩ : ∃u:Option PT,u=some t1:=⟨_,rfl⟩
    obtain ⟨root1,hr1⟩ : ∃r,r=i2:=⟨_,rfl⟩
    have HT1:=z_ (show TreeIn 4 cs2 root1 u/\(u=none->root1 = -1)/\(leavesO u).length<=j+1 from by
     have h3:=HT.out.2.2
     rw [hu,hr1]
     exact ⟨h1,fun h=>(by cases h),Nat.le_trans h2 (by omega)⟩)
    clear h1 h2 hu
    go_wp2_with fail
    rw [<-hr1]
    clear hr1
    refine (get_calls HS10.out.pr.a root1 u HT1.out.1 A2 c2 id (Kd.V_reads' (HS10.out.bx HVI.out)).2.2 (Kd.V_reads' HVI.out).2.1 HO.out.2).mono ?_
    rintro e w11 ⟨hI,hb⟩
    obtain ⟨it,hit⟩ : ∃x,x=(findO (keyB id) id root1 u).item:=⟨_,rfl⟩
    rw [<-hit] at hI
    have HIT:=z_ hit
    obtain ⟨E1,E2,e1,e2,rfl,y1,y2⟩:=hI
    have HB11:=z_ hb
    have HY:=z_ (And.intro y1 y2)
    clear hb hit y1 y2
    obtain ⟨w12,hw12⟩ : ∃w12,w12=w11.alloc (.cells #[.slice E1 it.id.length e1,.slice E2 it.key.length e2,.int .i64 it.since] 40):=⟨_,rfl⟩
    have HB12:=z_ (show Below w11.heap.size w11 w12 from by rw [hw12];exact below_alloc (Below.refl _ _) _)
    have HB12A:=z_ (below_step HB11.out HB12.out)
    have HG12:=z_ (show ItB w12 w11.heap.size [.slice E1 it.id.length e1,.slice E2 it.key.length e2,.int .i64 it.since] from by rw [hw12];exact heap_alloc_new w11 _)
    go_wp2_with fail
    rw [<-hw12]
    clear hw12
    obtain ⟨gy,hgy⟩ : ∃g,g=w11.heap.size:=⟨_,rfl⟩
    rw [<-hgy] at HG12
    rw [<-hgy]
    clear hgy
    have HV12:=z_ (Kd.V_reads' (Kd.V_below (HS10.out.bx HVI.out) HB12A.out))
    refine (rget_calls (HS10.out.pr.r.below HB12A.out) HT1.out.1.g.ok root1 A2 c2 id HV12.out.2.2 HV12.out.2.1 HO.out.2 HT1.out.1.g.node u HT1.out.1.at_ (way_any HT1.out.1 id HO.out.2) (nodeAt_neg cs2 (-1) (by omega))).mono ?_
    rintro e w13 ⟨hI,hb⟩
    rw [<-HIT.out] at hI
    obtain ⟨F1,F2,f1,f2,rfl,z1,z2⟩:=hI
    obtain ⟨w14,hw14⟩ : ∃w14,w14=w13.alloc (.cells #[.slice F1 it.id.length f1,.slice F2 it.key.length f2,.int .i64 it.since] 40):=⟨_,rfl⟩
    have HB14:=z_ (show Below w13.heap.size w13 w14 from by rw [hw14];exact below_alloc (Below.refl _ _) _)
    have HB14A:=z_ (below_step HB12A.out (below_step hb HB14.out))
    have HCC:=z_ (And.intro (Kd.V_reads' (Kd.V_below HY.out.1 (below_step HB12.out (below_step hb HB14.out)))) (And.intro (Kd.V_reads' (Kd.V_below HY.out.2 (below_step HB12.out (below_step hb HB14.out)))) (And.intro (Kd.V_reads' (Kd.V_below z1 HB14.out)) (Kd.V_reads' (Kd.V_below z2 HB14.out)))))
    have hg14:=HG12.out.below (below_step hb HB14.out)
    rw [hw14] at hg14
    obtain ⟨n0,n1,n2⟩:=hg14.cells
    clear hg14 hb z1 z2
    go_wp2_with fail
    rw [<-hw14]
    clear hw14 n0 n1 n2
    refine (annalsref10_SameItem.calls E1 e1 it.id E2 e2 it.key it.since F1 f1 it.id F2 f2 it.key it.since true w14 HCC.out.1.2.2 HCC.out.1.2.1 HCC.out.2.1.2.2 HCC.out.2.1.2.1 HCC.out.2.2.1.2.2 HCC.out.2.2.1.2.1 HCC.out.2.2.2.2.2 HCC.out.2.2.2.2.1 (same_item it.id it.key it.since)).mono ?_
    rintro e w15 ⟨rfl,hb⟩
    have HB15:=z_ (below_step HB14A.out hb)
    clear hb
    go_wp2_with fail
    refine (usedA_calls (HS10.out.pr.a.below HB15.out)).mono ?_
    rintro e w16 ⟨rfl,hd16⟩
    have HB16:=z_ (below_step HB15.out hd16.below)
    clear hd16
    go_wp2_with fail
    refine (rused_calls (HS10.out.pr.r.below HB16.out)).mono ?_
    rintro e w17 ⟨rfl,rfl⟩
    go_wp2_with fail
    have hK:=HK.out
    go_roundg k1
    case measure=>omega
    case rel=>exact ⟨j+1,root1,u,cs2,_,_,vl10,X10,by first|rfl|simp,by first|rfl|rw [hw],⟨by omega,by omega⟩,HT1,⟨HS10.out.below HB16.out⟩⟩
   ·have her:(er2==0)=false:=by simpa using hne
    obtain ⟨u,hu⟩ : ∃u:Option PT,u=t:=⟨_,rfl⟩
    obtain ⟨root1,hr1⟩ : ∃r,r=root:=⟨_,rfl⟩
    have HT1:=z_ (show TreeIn 4 cs2 root1 u/\(u=none->root1 = -1)/\(leavesO u).length<=j+1 from by
     have h3:=HT.out
     rw [hu,hr1,hcs]
     exact ⟨h3.1,h3.2.1,by omega⟩)
    clear hne hu
    go_wp2_with fail
    rw [<-hr1]
    clear hr1 hcs
    refine (get_calls HS10.out.pr.a root1 u HT1.out.1 A2 c2 id (Kd.V_reads' (HS10.out.bx HVI.out)).2.2 (Kd.V_reads' HVI.out).2.1 HO.out.2).mono ?_
    rintro e w11 ⟨hI,hb⟩
    obtain ⟨it,hit⟩ : ∃x,x=(findO (keyB id) id root1 u).item:=⟨_,rfl⟩
    rw [<-hit] at hI
    have HIT:=z_ hit
    obtain ⟨E1,E2,e1,e2,rfl,y1,y2⟩:=hI
    have HB11:=z_ hb
    have HY:=z_ (And.intro y1 y2)
    clear hb hit y1 y2
    obtain ⟨w12,hw12⟩ : ∃w12,w12=w11.alloc (.cells #[.slice E1 it.id.length e1,.slice E2 it.key.length e2,.int .i64 it.since] 40):=⟨_,rfl⟩
    have HB12:=z_ (show Below w11.heap.size w11 w12 from by rw [hw12];exact below_alloc (Below.refl _ _) _)
    have HB12A:=z_ (below_step HB11.out HB12.out)
    have HG12:=z_ (show ItB w12 w11.heap.size [.slice E1 it.id.length e1,.slice E2 it.key.length e2,.int .i64 it.since] from by rw [hw12];exact heap_alloc_new w11 _)
    go_wp2_with fail
    rw [<-hw12]
    clear hw12
    obtain ⟨gy,hgy⟩ : ∃g,g=w11.heap.size:=⟨_,rfl⟩
    rw [<-hgy] at HG12
    rw [<-hgy]
    clear hgy
    have HV12:=z_ (Kd.V_reads' (Kd.V_below (HS10.out.bx HVI.out) HB12A.out))
    refine (rget_calls (HS10.out.pr.r.below HB12A.out) HT1.out.1.g.ok root1 A2 c2 id HV12.out.2.2 HV12.out.2.1 HO.out.2 HT1.out.1.g.node u HT1.out.1.at_ (way_any HT1.out.1 id HO.out.2) (nodeAt_neg cs2 (-1) (by omega))).mono ?_
    rintro e w13 ⟨hI,hb⟩
    rw [<-HIT.out] at hI
    obtain ⟨F1,F2,f1,f2,rfl,z1,z2⟩:=hI
    obtain ⟨w14,hw14⟩ : ∃w14,w14=w13.alloc (.cells #[.slice F1 it.id.length f1,.slice F2 it.key.length f2,.int .i64 it.since] 40):=⟨_,rfl⟩
    have HB14:=z_ (show Below w13.heap.size w13 w14 from by rw [hw14];exact below_alloc (Below.refl _ _) _)
    have HB14A:=z_ (below_step HB12A.out (below_step hb HB14.out))
    have HCC:=z_ (And.intro (Kd.V_reads' (Kd.V_below HY.out.1 (below_step HB12.out (below_step hb HB14.out)))) (And.intro (Kd.V_reads' (Kd.V_below HY.out.2 (below_step HB12.out (below_step hb HB14.out)))) (And.intro (Kd.V_reads' (Kd.V_below z1 HB14.out)) (Kd.V_reads' (Kd.V_below z2 HB14.out)))))
    have hg14:=HG12.out.below (below_step hb HB14.out)
    rw [hw14] at hg14
    obtain ⟨n0,n1,n2⟩:=hg14.cells
    clear hg14 hb z1 z2
    go_wp2_with fail
    rw [<-hw14]
    clear hw14 n0 n1 n2
    refine (annalsref10_SameItem.calls E1 e1 it.id E2 e2 it.key it.since F1 f1 it.id F2 f2 it.key it.since true w14 HCC.out.1.2.2 HCC.out.1.2.1 HCC.out.2.1.2.2 HCC.out.2.1.2.1 HCC.out.2.2.1.2.2 HCC.out.2.2.1.2.1 HCC.out.2.2.2.2.2 HCC.out.2.2.2.2.1 (same_item it.id it.key it.since)).mono ?_
    rintro e w15 ⟨rfl,hb⟩
    have HB15:=z_ (below_step HB14A.out hb)
    clear hb
    go_wp2_with fail
    refine (usedA_calls (HS10.out.pr.a.below HB15.out)).mono ?_
    rintro e w16 ⟨rfl,hd16⟩
    have HB16:=z_ (below_step HB15.out hd16.below)
    clear hd16
    go_wp2_with fail
    refine (rused_calls (HS10.out.pr.r.below HB16.out)).mono ?_
    rintro e w17 ⟨rfl,rfl⟩
    go_wp2_with fail
    have hK:=HK.out
    go_roundg k1
    case measure=>omega
    case rel=>exact ⟨j+1,root1,u,cs2,_,_,vl10,X10,by first|rfl|simp,by first|rfl|rw [hw],⟨by omega,by omega⟩,HT1,⟨HS10.out.below HB16.out⟩⟩
  ·obtain rfl:j=fl.length:=by have:=HK.out;omega
   have hd:decide ((fl.length:Int)<(fl.length:Int))=false:=by simp
   go_wp2_with fail
   refine (same10_calls HST.out.pr root t HT.out.1 (by have:=HT.out.2.2;have:=HFL.out.1;omega) (fun W hW=>HG.out W (HST.out.low.trans (hW.mono HST.out.pr.a.base_le.1)))).mono ?_
   rintro e w4 ⟨rfl,hb⟩
   have HL4:=z_ (show Below base w3 w4 from HST.out.low.trans (hb.mono HST.out.pr.a.base_le.1))
   clear hb
   go_wp2_with fail
   refine (awake10_calls w4 (HG.out _ HL4.out)).mono ?_
   rintro e w5 ⟨rfl,hb⟩
   have HL5:=z_ (show Below base w w5 from HB3.out.trans (HL4.out.trans (hb.mono (by have h1:=HST.out.pr.a.base_le.1;have h2:=HB3.out.size;have h3:=HL4.out.size;have h4:=HBE.out;omega))))
   clear hb
   go_wp2_with fail
   go_ret
   exact ⟨rfl,by rw [<-HBE.out.1];exact HL5.out⟩
end Go.Proofs.YtdeneoknjeegbaaGreatDoor.P
end
section
namespace Go.Proofs.YtdeneoknjeegbaaGreatDoor.P
open Go.RowKit YtdeneoknjeegbaaGreatDoorW.PrintWords YtdeneoknjeegbaaGreatDoorW.PrintLast YtdeneoknjeegbaaGreatDoorW.PrintMore
theorem list_of {α:Type} (n:Nat) (R:Nat->α->Prop) (h : ∀i,i<n->∃a,R i a) : ∃xs:List α,xs.length=n/\∀i a,xs[i]? = some a->R i a:=by
 induction n with
 | zero=>exact ⟨[],rfl,fun i a hi=>by simp at hi⟩
 | succ n ih=>
   obtain ⟨xs,hl,hx⟩:=ih (fun i hi=>h i (by omega))
   obtain ⟨a,ha⟩:=h n (by omega)
   refine ⟨xs++[a],by simp [hl],fun i b hb=>?_⟩
   by_cases hi:i<n
   ·rw [List.getElem?_append_left (by omega)] at hb
    exact hx i b hb
   ·rw [List.getElem?_append_right (by omega)] at hb
    have h0:i-xs.length=0:=by
     have:=(List.getElem?_eq_some_iff.1 hb).1
     simp at this
     omega
    rw [h0] at hb
    have hin:i=n:=by omega
    subst hin
    have:a=b:=by simpa using hb
    subst this
    exact ha
theorem weightsAll_mem {H:Type} {P:Program} {e:TypeId} {l:List (DataW H)} {d:DataW H} (hd:d∈l) {n:Nat} (hn:n∈d.weights P e):n∈DataW.weightsAll P e l:=by
 induction l with
 | nil=>simp at hd
 | cons a l ih=>
   simp only [DataW.weightsAll,List.mem_append]
   rcases List.mem_cons.1 hd with rfl|hd
   ·exact .inl hn
   ·exact .inr (ih hd)
structure Opens (P:Program) (t:Nat) {α:Type} (d:Kd α) (wf:α->Prop):Prop where
 size:P.cellsOf t=d.sz
 get : ∀ {H:Type} {enc:TypeId×Value->H} {w:World} {base:Nat} {spare:Nat->Bool} {held:Bool} {fuel:Nat} {cs:List Value} {x:DataW H×List MemPlace},
  DataW.trod enc P w base spare held fuel t cs=some x->(∀n∈x.1.weights P t,n<=reachBytes)->∃a,d.K w a cs/\wf a
theorem Opens.imp {P:Program} {t:Nat} {α:Type} {d:Kd α} {wf wf':α->Prop} (h:Opens P t d wf) (hi : ∀a,wf a->wf' a):Opens P t d wf':=
 ⟨h.size,fun h1 h2=>by
  obtain ⟨a,h3,h4⟩:=h.get h1 h2
  exact ⟨a,h3,hi a h4⟩⟩
theorem Opens.int {P:Program} {t:Nat} {k:IntKind} (hu:P.underlying t=some (.int k)) (hc:P.cellsOf t=1):Opens P t (Kd.int k) (fun n=>(Lit.int k n).wf=true):=
 ⟨hc,fun h _=>by
  obtain ⟨n,rfl,_,hw⟩:=DataW.trod_int hu h
  exact ⟨n,rfl,hw⟩⟩
theorem Opens.bool {P:Program} {t:Nat} (hu:P.underlying t=some .bool) (hc:P.cellsOf t=1):Opens P t Kd.bool (fun _=>True):=
 ⟨hc,fun h _=>by
  obtain ⟨n,rfl,_⟩:=DataW.trod_bool hu h
  exact ⟨n,rfl,trivial⟩⟩
theorem Opens.slice {P:Program} {t e:Nat} {α:Type} {d:Kd α} {wf:α->Prop} (hu:P.underlying t=some (.slice e)) (hc:P.cellsOf t=1) (he:Opens P e d wf):
 Opens P t (Kd.slice e d) (fun xs=>xs.length*P.bytesOf e<=reachBytes/\∀a,a∈xs->wf a):=by
 refine ⟨hc,fun {H enc w base spare held fuel cs x} h hw=>?_⟩
 rcases DataW.trod_slice hu h with ⟨rfl,rfl⟩|⟨ad,len,cap,elems,rest,n,_,rfl,rfl,hb,hl,hm,hlen,hel,hsp,hns⟩
 ·exact ⟨[],⟨none,0,rfl,Nat.le_refl _,Kd.C_nil d w⟩,by simp,by simp⟩
 ·have hwa : ∀d0∈elems.map (·.1),∀m∈DataW.weights P e d0,m<=reachBytes:=fun d0 hd0 m hm0=>hw m (by
   simp only [DataW.weights,hu,List.mem_cons,List.mem_append]
   exact .inr (.inl (weightsAll_mem hd0 hm0)))
  have hsz:(elems.length+rest.length)*P.bytesOf e<=reachBytes:=hw _ (by simp [DataW.weights,hu])
  obtain ⟨xs,hxl,hx⟩:=list_of len (fun i a=>wf a/\∃c,c.length=d.sz/\d.K w a c/\∀j u,c[j]? = some u->w.cell? (ad.add (i*d.sz+j))=some u) (fun i hi=>by
   have h1:=hel i hi
   have hi':i<elems.length:=by omega
   rw [List.getElem?_eq_getElem hi',Option.bind_eq_some_iff] at h1
   obtain ⟨c,hc1,hc2⟩:=h1
   obtain ⟨_,hlc,hcell⟩:=World.cells?_some hc1
   obtain ⟨a,hK,hwf⟩:=he.get hc2 (fun m hm0=>hwa _ (List.mem_map.2 ⟨_,List.getElem_mem hi',rfl⟩) m hm0)
   refine ⟨a,hwf,c,d.K_len hK,hK,fun j u hj=>?_⟩
   have hj':j<c.length:=(List.getElem?_eq_some_iff.1 hj).1
   have h2:=hcell j (by omega)
   rw [hj] at h2
   rw [<-h2,he.size]
   congr 1
   unfold Addr.add
   by_cases h3:i*d.sz=0<;>by_cases h4:j=0<;>simp [h3,h4,Nat.add_assoc])
  refine ⟨xs,⟨some ad,cap,by rw [hxl],by omega,⟨rfl,by unfold maxLen at hm;omega,fun _=>⟨ad,rfl,fun j p hj=>?_⟩⟩⟩,?_,fun a ha=>?_⟩
  ·obtain ⟨_,c,h1,h2,h3⟩:=hx j p hj
   exact ⟨c,h1,h2,h3⟩
  ·rw [hxl]
   refine Nat.le_trans (Nat.mul_le_mul_right _ ?_) hsz
   omega
  ·obtain ⟨i,hi⟩:=List.getElem?_of_mem ha
   exact (hx i a hi).1
structure OpensF (P:Program) (fs:List Field) (off:Nat) {α:Type} (d:Kd α) (wf:α->Prop):Prop where
 get : ∀ {H:Type} {enc:TypeId×Value->H} {w:World} {base:Nat} {spare:Nat->Bool} {held:Bool} {fuel:Nat} {cs:List Value} {xs:List (DataW H×List MemPlace)},
  cs.length=off+d.sz->xs.length=fs.length->(∀(i:Nat) (f:Field),fs[i]? = some f->DataW.trod enc P w base spare held fuel f.type ((cs.drop f.offset).take (P.cellsOf f.type))=xs[i]?)->
  (∀n∈DataW.weightsEach P (fs.map (·.type)) (xs.map (·.1)),n<=reachBytes)->∃a,d.K w a (cs.drop off)/\wf a
theorem OpensF.one {P:Program} {f:Field} {α:Type} {d:Kd α} {wf:α->Prop} {t off:Nat} (ht:f.type=t) (ho:f.offset=off) (h:Opens P t d wf):OpensF P [f] off d wf:=by
 subst ht
 subst ho
 refine ⟨fun {H enc w base spare held fuel cs xs} hl hxl hx hw=>?_⟩
 match xs,hxl with
 | [x],_=>
   have h1:=hx 0 f rfl
   rw [List.take_of_length_le (by rw [List.length_drop,h.size];omega)] at h1
   exact h.get h1 (fun n hn=>hw n (by simp only [List.map_cons,List.map_nil,DataW.weightsEach,List.mem_append];exact .inl hn))
theorem OpensF.cons {P:Program} {f:Field} {fs:List Field} {α β:Type} {d:Kd α} {d':Kd β} {wf:α->Prop} {wf':β->Prop} {t off off':Nat} (ht:f.type=t) (ho:f.offset=off) (h:Opens P t d wf)
 (ho':off+d.sz=off') (hr:OpensF P fs off' d' wf'):OpensF P (f :: fs) off (Kd.pair d d') (fun x=>wf x.1/\wf' x.2):=by
 subst ht
 subst ho
 subst ho'
 refine ⟨fun {H enc w base spare held fuel cs xs} hl hxl hx hw=>?_⟩
 match xs,hxl with
 | x :: xs,hxl=>
   have hl':cs.length=f.offset+(d.sz+d'.sz):=hl
   have h1:=hx 0 f rfl
   obtain ⟨a,ha,hwa⟩:=h.get h1 (fun n hn=>hw n (by simp only [List.map_cons,DataW.weightsEach,List.mem_append];exact .inl hn))
   obtain ⟨b,hb,hwb⟩:=hr.get (by rw [hl'];omega) (by simpa using hxl) (fun i g hg=>by simpa using hx (i+1) g (by simpa using hg)) (fun n hn=>hw n (by simp only [List.map_cons,DataW.weightsEach,List.mem_append];exact .inr hn))
   refine ⟨(a,b),⟨_,_,?_,ha,hb⟩,hwa,hwb⟩
   rw [h.size]
   have:=List.take_append_drop d.sz (cs.drop f.offset)
   rw [List.drop_drop] at this
   exact this.symm
theorem Opens.struct {P:Program} {t:Nat} {fs:Array Field} {α:Type} {d:Kd α} {wf:α->Prop} (hu:P.underlying t=some (.struct fs)) (hc:P.cellsOf t=d.sz) (h:OpensF P fs.toList 0 d wf):Opens P t d wf:=by
 refine ⟨hc,fun {H enc w base spare held fuel cs x} h1 hw=>?_⟩
 obtain ⟨xs,n,_,rfl,hl,hxl,hx⟩:=DataW.trod_struct hu h1
 have:=h.get (cs:=cs) (by rw [hl,hc];omega) (by simpa using hxl) (fun i f hf=>hx i f (by simpa using hf)) (fun n hn=>hw n (by simp only [DataW.weights,hu];exact hn))
 simpa using this
theorem Opens.iso {P:Program} {t:Nat} {α β:Type} {d:Kd α} {wf:α->Prop} (h:Opens P t d wf) (f:β->α) (g:α->β) (hfg : ∀a,f (g a)=a):Opens P t (Kd.iso d f) (fun b=>wf (f b)):=
 ⟨h.size,fun h1 hw=>by
  obtain ⟨a,ha,hwa⟩:=h.get h1 hw
  exact ⟨g a,by show d.K _ (f (g a)) _;rw [hfg];exact ha,by show wf (f (g a));rw [hfg];exact hwa⟩⟩
theorem Opens.param {P:Program} {t e:Nat} {α:Type} {d:Kd α} {wf:List α->Prop} (ho:Opens P t (Kd.slice e d) wf) {H:Type} {enc:TypeId×Value->H} {w:World} {base:Nat} {spare:Nat->Bool} {held:Bool} {fuel:Nat}
 {A:Option Addr} {len cap:Nat} {x:DataW H×List MemPlace} (h:DataW.trod enc P w base spare held fuel t [.slice A len cap]=some x) (hw : ∀n∈x.1.weights P t,n<=reachBytes):
 ∃xs:List α,len=xs.length/\xs.length<=cap/\d.C w A xs.length xs/\wf xs:=by
 obtain ⟨xs,⟨A',c,he,hl,hC⟩,hwf⟩:=ho.get h hw
 injection he with he _
 injection he with h1 h2 h3
 subst h1
 subst h3
 exact ⟨xs,h2,hl,hC,hwf⟩
end Go.Proofs.YtdeneoknjeegbaaGreatDoor.P
end
section
namespace Go.Proofs.YtdeneoknjeegbaaGreatDoor.P
open Go.RowKit Go.ChangeShapes Go.WideShapes YtdeneoknjeegbaaGreatDoorW.PrintWords YtdeneoknjeegbaaGreatDoorW.PrintLast YtdeneoknjeegbaaGreatDoorW.PrintMore
theorem opensByte:Opens Tryz.prog 5 (Kd.int .u8) (fun n=>(Lit.int .u8 n).wf=true):=Opens.int Tryz.underlying5 (by kernel_rfl)
theorem opensInt:Opens Tryz.prog 3 (Kd.int .i64) (fun n=>(Lit.int .i64 n).wf=true):=Opens.int Tryz.underlying3 (by kernel_rfl)
theorem opensBytes:Opens Tryz.prog 23 (Kd.slice 5 (Kd.int .u8)) (fun xs=>xs.length*Tryz.prog.bytesOf 5<=reachBytes/\∀a,a∈xs->(Lit.int .u8 a).wf=true):=Opens.slice Tryz.underlying23 (by kernel_rfl) opensByte
theorem wfB {l:List Int} (h : ∀x∈l,(Lit.int .u8 x).wf=true):BytesOk l:=by
 intro x hx
 have:=h x hx
 simp only [Lit.wf,IntKind.min,IntKind.max,IntKind.signed,IntKind.bits,Bool.and_eq_true,decide_eq_true_eq] at this
 simp at this
 omega
theorem each_mem {H:Type} {P:Program} : ∀ {ts:List TypeId} {ds:List (DataW H)} (h:(DataW.weightsEach P ts ds).all (· <= reachBytes)=true) (j:Nat) (t:TypeId) (d:DataW H),ts[j]? = some t->ds[j]? = some d->∀n∈d.weights P t,n<=reachBytes
 | [],_,_,j,t,d,ht,_=>by simp at ht
 | t0 :: ts,[],_,j,t,d,_,hd=>by simp at hd
 | t0 :: ts,d0 :: ds,h,j,t,d,ht,hd=>by
   simp only [DataW.weightsEach,List.all_append,Bool.and_eq_true] at h
   cases j with
   | zero=>
     obtain rfl:=Option.some.inj ht
     obtain rfl:=Option.some.inj hd
     intro n hn
     have:=List.all_eq_true.1 h.1 n hn
     simpa using this
   | succ j=>exact each_mem h.2 j t d (by simpa using ht) (by simpa using hd)
end Go.Proofs.YtdeneoknjeegbaaGreatDoor.P
end
section
namespace Go.Proofs.YtdeneoknjeegbaaGreatDoor.P
open Go.RowKit Go.ChangeShapes Go.WideShapes YtdeneoknjeegbaaGreatDoorW.PrintWords YtdeneoknjeegbaaGreatDoorW.PrintLast YtdeneoknjeegbaaGreatDoorW.PrintMore
section
variable {H:Type} {enc:TypeId×Value->H} {w:World} {base:Nat} {spare:Nat->Bool} {held:Bool} {r:Go.Reach} {b0:Nat} {v:Value} {d:DataW H} {p:List MemPlace}
set_option maxRecDepth 100000 in
theorem bytes_param (hv:Value.okWide Tryz.prog w r b0 23 v) (h:DataW.Trod enc Tryz.prog w base spare held 23 v d p) (hw : ∀n∈d.weights Tryz.prog 23,n<=reachBytes):
 ∃(A:Option Addr) (c:Nat) (xs:List Int),v = .slice A xs.length c/\xs.length<=c/\Kd.C (Kd.int .u8) w A xs.length xs/\BytesOk xs:=by
 obtain ⟨A,len,cap,rfl⟩:=okWide_slice Tryz.underlying23 hv
 obtain ⟨fuel,hf⟩:=h
 obtain ⟨xs,rfl,hl,hC,hwf⟩:=opensBytes.param hf hw
 exact ⟨A,cap,xs,rfl,hl,hC,wfB hwf.2⟩
end
end Go.Proofs.YtdeneoknjeegbaaGreatDoor.P
end
section
namespace Go.Proofs.YtdeneoknjeegbaaGreatDoor.P
open Go.RowKit Go.ChangeShapes Go.WideShapes YtdeneoknjeegbaaGreatDoor.Pure YtdeneoknjeegbaaGreatDoorW.PrintWords YtdeneoknjeegbaaGreatDoorW.PrintLast YtdeneoknjeegbaaGreatDoorW.PrintMore
abbrev PutOk (x:S34):Prop:=BytesOk x.f0/\BytesOk x.f1
theorem opensPut:Opens Tryz.prog 34 k34 PutOk:=by
 have h:=(Opens.struct (P:=Tryz.prog) (t:=34) Tryz.underlying34 (by kernel_rfl) (OpensF.cons rfl rfl opensBytes rfl (OpensF.cons rfl rfl opensBytes rfl (OpensF.one rfl rfl opensInt)))).iso (fun x:S34=>(x.f0,x.f1,x.f2)) (fun y=>⟨y.1,y.2.1,y.2.2⟩) (fun _=>rfl)
 refine h.imp fun x hx=>?_
 obtain ⟨h0,h1,h2⟩:=hx
 exact ⟨wfB h0.2,wfB h1.2⟩
theorem opensPuts:Opens Tryz.prog 22 (Kd.slice 34 k34) (fun xs=>xs.length*Tryz.prog.bytesOf 34<=reachBytes/\∀a,a∈xs->PutOk a):=Opens.slice Tryz.underlying22 (by kernel_rfl) opensPut
section
variable {H:Type} {enc:TypeId×Value->H} {w:World} {base:Nat} {spare:Nat->Bool} {held:Bool} {r:Go.Reach} {b0:Nat} {v:Value} {d:DataW H} {p:List MemPlace}
set_option maxRecDepth 100000 in
theorem puts_param (hv:Value.okWide Tryz.prog w r b0 22 v) (h:DataW.Trod enc Tryz.prog w base spare held 22 v d p) (hw : ∀n∈d.weights Tryz.prog 22,n<=reachBytes):
 ∃(A:Option Addr) (c:Nat) (xs:List S34),v = .slice A xs.length c/\xs.length<=c/\Kd.C k34 w A xs.length xs/\∀a∈xs,PutOk a:=by
 obtain ⟨A,len,cap,rfl⟩:=okWide_slice Tryz.underlying22 hv
 obtain ⟨fuel,hf⟩:=h
 obtain ⟨xs,rfl,hl,hC,hwf⟩:=opensPuts.param hf hw
 exact ⟨A,cap,xs,rfl,hl,hC,hwf.2⟩
end
end Go.Proofs.YtdeneoknjeegbaaGreatDoor.P
end
section
namespace Go.Proofs.YtdeneoknjeegbaaGreatDoorW.PrintWords
open Go.ChangeShapes Go.WideShapes

end Go.Proofs.YtdeneoknjeegbaaGreatDoorW.PrintWords
end
