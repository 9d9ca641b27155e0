/- Lemmas of this claim, part 13. -/
import Derived.Test.YtdeneoknjeegbaaDoorPartPtreeOrder2
import Derived.Test.YtdeneoknjeegbaaDoorPartPtreeOrder12
import Derived.Test.YtdeneoknjeegbaaDoorPartPtreeOrder11
import Derived.Test.YtdeneoknjeegbaaDoorPartPtreeOrder3
import Derived.Test.YtdeneoknjeegbaaDoorPartPtreeOrder7
import Derived.Test.YtdeneoknjeegbaaDoorPartPtreeOrder6
import Derived.Lib.SlBytesConst
import Derived.Test.YtdeneoknjeegbaaDoorPartPtreeOrder10
import Derived.Deep.RegionLaw
set_option linter.unusedVariables false
set_option linter.unusedSimpArgs false
section
namespace Go.Proofs.YtdeneoknjeegbaaDoor.P
open Go.RowKit YtdeneoknjeegbaaDoorW.PrintWords YtdeneoknjeegbaaDoorW.PrintLast YtdeneoknjeegbaaDoorW.PrintMore
attribute [local go_sem] max2_int min2_int max_two min_two max_three min_three max_four min_four
def annalsref10_SameItems.l0:Nat->List (S51)->List (S51)->Int->Int->Option (Bool)
 | 0,_,_,_,_=>none
 | k+1,x0,x1,x12,x13=>if x13<x12 then (if 0<=x13 then (if x13<(x0.length:Int) then (if x13<(x1.length:Int) then ((annalsref10_SameItem.f ((rd_T51 x0 x13).f0) ((rd_T51 x0 x13).f1) ((rd_T51 x0 x13).f2) ((rd_T51 x1 x13).f0) ((rd_T51 x1 x13).f1) ((rd_T51 x1 x13).f2)).bind fun t414=>(if t414=true then (annalsref10_SameItems.l0 k x0 x1 x12 (wrap64 (x13+1))) else (some false))) else (none)) else (none)) else (none)) else (some true)
def annalsref10_SameItems.f (k:Nat) (l0:List (S51)) (l1:List (S51)):Option (Bool):=if (l0.length:Int)=(l1.length:Int) then (annalsref10_SameItems.l0 k l0 l1 (l0.length:Int) 0) else (some false)
theorem annalsref10_SameItems.mono_l : ∀k,(∀y0 y1 y2 y3,LeO (annalsref10_SameItems.l0 k y0 y1 y2 y3) (annalsref10_SameItems.l0 (k+1) y0 y1 y2 y3))
 | 0=>fun _ _ _ _ r h=>by simp [annalsref10_SameItems.l0] at h
 | k+1=>by
   have ih0:=annalsref10_SameItems.mono_l k
   ·intro y0 y1 y2 y3
    unfold annalsref10_SameItems.l0
    repeat' first
    | (with_reducible exact ih0 _ _ _ _)
    | (with_reducible exact LeO.refl _)
    | (with_reducible exact LeO.none _)
    | (with_reducible refine LeO.ite ?_ ?_)
    | (with_reducible refine LeO.bind ?_ (fun _=>?_))
    | exact ih0 _ _ _ _
    | exact LeO.none _
    | refine LeO.ite ?_ ?_
    | refine LeO.bind ?_ (fun _=>?_)
theorem annalsref10_SameItems.mono : ∀a0 a1 k,LeO (annalsref10_SameItems.f k a0 a1) (annalsref10_SameItems.f (k+1) a0 a1):=by
 intro a0 a1 k
 have ih0:=annalsref10_SameItems.mono_l k
 unfold annalsref10_SameItems.f
 repeat' first
  | (with_reducible exact ih0 _ _ _ _)
  | (with_reducible exact LeO.refl _)
  | (with_reducible exact LeO.none _)
  | (with_reducible refine LeO.ite ?_ ?_)
  | (with_reducible refine LeO.bind ?_ (fun _=>?_))
  | exact ih0 _ _ _ _
  | exact LeO.none _
  | refine LeO.ite ?_ ?_
  | refine LeO.bind ?_ (fun _=>?_)
def annalsref10_SameItems.T6:Bool×List (List Nat×List Nat):=(true,[([],[]),([],[]),([0,1],[0,1]),([2],[2]),([],[]),([],[]),([4,5],[4,5]),([6],[6]),([3,7],[3,7]),([8],[8])])
def annalsref10_SameItems.B6:List Nat:=[0,0,3,7,0,0,48,112,255,511]
theorem annalsref10_SameItems.tab6:rtab .any (opsOf Tryd.f34 6)=annalsref10_SameItems.T6:=by kernel_rfl
theorem annalsref10_SameItems.bits6:waitsOk annalsref10_SameItems.T6.2 annalsref10_SameItems.B6=true:=by kernel_rfl
set_option maxHeartbeats 8000000 in
set_option maxRecDepth 100000 in
theorem annalsref10_SameItems.calls (k:Nat) (A0:Option Addr) (c0:Nat) (l0:List (S51)) (A1:Option Addr) (c1:Nat) (l1:List (S51)) (r:Bool) (w:World) (hr0:Kd.C k51 w A0 l0.length l0) (hc0:l0.length<=c0) (hr1:Kd.C k51 w A1 l1.length l1) (hc1:l1.length<=c1) (h:annalsref10_SameItems.f k l0 l1=some r):
 Calls Tryd.prog 34 #[.slice A0 l0.length c0,.slice A1 l1.length c1] w fun e w'=>e = .returned (.bool r)/\Below w.heap.size w w':=by
 have hu51:=Tryd.underlying51
 have HR0:=z_ hr0
 have HC0:=z_ hc0
 clear hr0 hc0
 have HR1:=z_ hr1
 have HC1:=z_ hc1
 clear hr1 hc1
 have HB:=z_ (Below.refl w.heap.size w)
 have H:(if (l0.length:Int)=(l1.length:Int) then (annalsref10_SameItems.l0 k l0 l1 (l0.length:Int) 0) else (some false))=some r:=h
 clear h
 by_cases c3:(l0.length:Int)=(l1.length:Int)
 ·rw [if_pos c3] at H
  have c3b0:((l0.length:Int)==(l1.length:Int))=true:=beq_iff_eq.mpr c3
  have c3b1:((l0.length:Int) !=(l1.length:Int))=false:=bne_eq_false_iff_eq.mpr c3
  have c3b2:(l0.length==l1.length)=true:=by first|simpa using c3|(simp at c3 ⊢;omega)
  clear c3
  have H':=z_ H
  clear H
  go_enter Tryd.func34,Tryd.ntmps34
  go_wp2
  go_loopg [13] k (fun kq v13 w'=>∃(x13_1:Int),v13 = .int .i64 x13_1/\Aside0 (annalsref10_SameItems.l0 kq l0 l1 (l0.length:Int) x13_1=some r)/\Aside0 (kq<=k)/\Aside0 (Below w.heap.size w w'))
  case atStart=>exact ⟨(0),(by first|rfl|(simp;done)|(simp [*];done)),H',⟨Nat.le_refl _⟩,⟨by repeat (first|(with_reducible first|exact HB.out|apply below_alloc|apply pw_below_drewN|apply below_drew1)|exact HB.out)⟩⟩
  case round=>
   clear H'
   try clear c1
   try clear p2
   try clear c3
   try clear c3b0
   try clear c3b1
   try clear c3b2
   obtain ⟨x13_1,rfl,HA,HK1,HB⟩:=hrel
   cases gk with
   | zero=>exact absurd HA.out (by simp [annalsref10_SameItems.l0])
   | succ k1=>
     have H:=HA.out
     clear HA
     simp only [annalsref10_SameItems.l0] at H
     by_cases c4:x13_1<(l0.length:Int)
     ·rw [if_pos c4] at H
      have c4b0:decide (x13_1<(l0.length:Int))=true:=decide_eq_true c4
      clear c4
      by_cases c5:0<=x13_1
      ·rw [if_pos c5] at H
       have c5b0:decide (0<=x13_1)=true:=decide_eq_true c5
       clear c5
       by_cases c6:x13_1<(l0.length:Int)
       ·rw [if_pos c6] at H
        have c6b0:decide (x13_1<(l0.length:Int))=true:=decide_eq_true c6
        clear c6
        by_cases c7:x13_1<(l1.length:Int)
        ·rw [if_pos c7] at H
         have c7b0:decide (x13_1<(l1.length:Int))=true:=decide_eq_true c7
         clear c7
         replace H:=Option.bind_eq_some_iff.mp H
         obtain ⟨t414,A80,H⟩:=H
         replace H:(if t414=true then (annalsref10_SameItems.l0 k1 l0 l1 (l0.length:Int) (wrap64 (x13_1+1))) else (some false))=some r:=H
         have A8:=z_ A80
         clear A80
         by_cases c9:t414=true
         ·subst c9
          have H1:(annalsref10_SameItems.l0 k1 l0 l1 (l0.length:Int) (wrap64 (x13_1+1)))=some r:=by rw [if_pos rfl] at H;exact H
          clear H
          have H:=H1
          clear H1
          have H':=z_ H
          clear H
          try go_wp2
          have n0_:=z_ (below_drew1 HB.out)
          clear HB
          have HB:=n0_
          clear n0_
          have p412:0<=(x13_1:Int):=of_decide_eq_true (by first|(with_reducible assumption)|assumption)
          have q412:x13_1<(l0.length:Int):=of_decide_eq_true (by first|(with_reducible assumption)|assumption)
          obtain ⟨ad412,A412_0,c412_0,A412_1,c412_1,e412,hx412_0,hx412_1,hx412_2,hl412_0,hi412_0,hl412_1,hi412_1⟩:=at_T51 HR0.out x13_1 p412 q412
          have hw412_2:=hx412_2
          have hw412_1:=hx412_1
          have hw412_0:=hx412_0
          cases e412
          replace hx412_0:=(HB.out.cell (World.block_lt_of_cell? w _ hx412_0)).trans hx412_0
          replace hx412_1:=(HB.out.cell (World.block_lt_of_cell? w _ hx412_1)).trans hx412_1
          replace hx412_2:=(HB.out.cell (World.block_lt_of_cell? w _ hx412_2)).trans hx412_2
          have HR412_0:=z_ hi412_0
          have HC412_0:=z_ hl412_0
          clear hi412_0 hl412_0
          have HR412_1:=z_ hi412_1
          have HC412_1:=z_ hl412_1
          clear hi412_1 hl412_1
          replace p412:=eq_true p412
          replace q412:=eq_true q412
          have p413:0<=(x13_1:Int):=of_decide_eq_true (by first|(with_reducible assumption)|assumption)
          have q413:x13_1<(l1.length:Int):=of_decide_eq_true (by first|(with_reducible assumption)|assumption)
          obtain ⟨ad413,A413_0,c413_0,A413_1,c413_1,e413,hx413_0,hx413_1,hx413_2,hl413_0,hi413_0,hl413_1,hi413_1⟩:=at_T51 HR1.out x13_1 p413 q413
          have hw413_2:=hx413_2
          have hw413_1:=hx413_1
          have hw413_0:=hx413_0
          cases e413
          replace hx413_0:=(HB.out.cell (World.block_lt_of_cell? w _ hx413_0)).trans hx413_0
          replace hx413_1:=(HB.out.cell (World.block_lt_of_cell? w _ hx413_1)).trans hx413_1
          replace hx413_2:=(HB.out.cell (World.block_lt_of_cell? w _ hx413_2)).trans hx413_2
          have HR413_0:=z_ hi413_0
          have HC413_0:=z_ hl413_0
          clear hi413_0 hl413_0
          have HR413_1:=z_ hi413_1
          have HC413_1:=z_ hl413_1
          clear hi413_1 hl413_1
          replace p413:=eq_true p413
          replace q413:=eq_true q413
          refine start_ (n:=10) (S:=fun w'=>w'.cell? (ad412.add ((x13_1).toNat*3))=some (.slice A412_0 ((rd_T51 l0 x13_1).f0).length c412_0)/\w'.cell? ⟨(ad412.add ((x13_1).toNat*3)).block,(ad412.add ((x13_1).toNat*3)).off+1,none⟩=some (.slice A412_1 ((rd_T51 l0 x13_1).f1).length c412_1)/\w'.cell? ⟨(ad412.add ((x13_1).toNat*3)).block,(ad412.add ((x13_1).toNat*3)).off+2,none⟩=some (.int .i64 ((rd_T51 l0 x13_1).f2))/\w'.cell? (ad413.add ((x13_1).toNat*3))=some (.slice A413_0 ((rd_T51 l1 x13_1).f0).length c413_0)/\w'.cell? ⟨(ad413.add ((x13_1).toNat*3)).block,(ad413.add ((x13_1).toNat*3)).off+1,none⟩=some (.slice A413_1 ((rd_T51 l1 x13_1).f1).length c413_1)/\w'.cell? ⟨(ad413.add ((x13_1).toNat*3)).block,(ad413.add ((x13_1).toNat*3)).off+2,none⟩=some (.int .i64 ((rd_T51 l1 x13_1).f2))) (ds:=[]) (bt_ 10 0) (by kernel_rfl) rfl rfl ⟨((HB.out.cell (World.block_lt_of_cell? w _ hw412_0)).trans hw412_0),((HB.out.cell (World.block_lt_of_cell? w _ hw412_1)).trans hw412_1),((HB.out.cell (World.block_lt_of_cell? w _ hw412_2)).trans hw412_2),((HB.out.cell (World.block_lt_of_cell? w _ hw413_0)).trans hw413_0),((HB.out.cell (World.block_lt_of_cell? w _ hw413_1)).trans hw413_1),((HB.out.cell (World.block_lt_of_cell? w _ hw413_2)).trans hw413_2)⟩ (fun hHeld=>?_);refine with_tabW annalsref10_SameItems.tab6 annalsref10_SameItems.bits6 (fun HT_ HW_=>?_)
          generalize wr.drew=w10 at HB HR412_0 HR412_1 HR413_0 HR413_1 hx412_0 hx412_1 hx412_2 hx413_0 hx413_1 hx413_2 hHeld ⊢
          refine pure_ (i:=0) (N:=some 16) (v:=?_) (a':=?_) (bt_ 10 1) rfl rfl (any_of HT_.out (by kernel_rfl)) (fun _ _ _ h=>h) (Or.inl ⟨by rfl,?_⟩) ?_ ?_
          rotate_left
          ·intro w'
           go_simp
           with_reducible rfl
          rotate_left
          ·simp only [pq_]
           rfl
          refine pure_ (i:=1) (N:=some 17) (v:=?_) (a':=?_) (bt_ 10 3) rfl rfl (any_of HT_.out (by kernel_rfl)) (fun _ _ _ h=>h) (Or.inl ⟨by rfl,?_⟩) ?_ ?_
          rotate_left
          ·intro w'
           go_simp
           with_reducible rfl
          rotate_left
          ·simp only [pq_]
           rfl
          refine pure_ (i:=2) (N:=some 18) (v:=?_) (a':=?_) (bt_ 10 7) rfl rfl (any_of HT_.out (by kernel_rfl)) (fun _ _ _ h=>h) (Or.inl ⟨by rfl,?_⟩) ?_ ?_
          rotate_left
          ·intro w'
           go_simp
           with_reducible rfl
          rotate_left
          ·simp only [pq_]
           rfl
          refine pure_ (i:=4) (N:=some 20) (v:=?_) (a':=?_) (bt_ 10 23) rfl rfl (any_of HT_.out (by kernel_rfl)) (fun _ _ _ h=>h) (Or.inl ⟨by rfl,?_⟩) ?_ ?_
          rotate_left
          ·intro w'
           go_simp
           with_reducible rfl
          rotate_left
          ·simp only [pq_]
           rfl
          refine pure_ (i:=5) (N:=some 21) (v:=?_) (a':=?_) (bt_ 10 55) rfl rfl (any_of HT_.out (by kernel_rfl)) (fun _ _ _ h=>h) (Or.inl ⟨by rfl,?_⟩) ?_ ?_
          rotate_left
          ·intro w'
           go_simp
           with_reducible rfl
          rotate_left
          ·simp only [pq_]
           rfl
          refine pure_ (i:=6) (N:=some 22) (v:=?_) (a':=?_) (bt_ 10 119) rfl rfl (any_of HT_.out (by kernel_rfl)) (fun _ _ _ h=>h) (Or.inl ⟨by rfl,?_⟩) ?_ ?_
          rotate_left
          ·intro w'
           go_simp
           with_reducible rfl
          rotate_left
          ·simp only [pq_]
           rfl
          refine take_ (i:=3) (N:=some 19) (v:=?_) (a':=?_) (bt_ 10 127) rfl rfl (take_ofW HT_.out HW_.out (by kernel_rfl)) (fun _ _ _ h=>h) (Or.inl ⟨by rfl,?_⟩) hHeld ?_ ?_
          rotate_left
          ·rintro w' ⟨s0,s1,s2,s3,s4,s5⟩
           go_simp
           with_reducible rfl
          rotate_left
          ·simp only [pq_]
           rfl
          refine take_ (i:=7) (N:=some 23) (v:=?_) (a':=?_) (bt_ 10 255) rfl rfl (take_ofW HT_.out HW_.out (by kernel_rfl)) (fun _ _ _ h=>h) (Or.inl ⟨by rfl,?_⟩) hHeld ?_ ?_
          rotate_left
          ·rintro w' ⟨s0,s1,s2,s3,s4,s5⟩
           go_simp
           with_reducible rfl
          rotate_left
          ·simp only [pq_]
           rfl
          refine one_ (i:=8) (N:=some 24) (bt_ 10 511) rfl rfl (one_of HT_.out (by kernel_rfl)) (by decide) (fun K hK=>?_)
          refine goes_ Tryd.func71 (by kernel_rfl) rfl #[.agg #[.slice A412_0 ((rd_T51 l0 x13_1).f0).length c412_0,.slice A412_1 ((rd_T51 l0 x13_1).f1).length c412_1,.int .i64 ((rd_T51 l0 x13_1).f2)],.agg #[.slice A413_0 ((rd_T51 l1 x13_1).f0).length c413_0,.slice A413_1 ((rd_T51 l1 x13_1).f1).length c413_1,.int .i64 ((rd_T51 l1 x13_1).f2)]] (by rfl) rfl rfl (by (try simp only [List.map_toArray,List.map_cons,List.map_nil]);first|done|rfl|(simp only [List.length_drop,List.length_take];rfl)) ?_
          with_reducible refine (annalsref10_SameItem.calls _ _ ((rd_T51 l0 x13_1).f0) _ _ ((rd_T51 l0 x13_1).f1) ((rd_T51 l0 x13_1).f2) _ _ ((rd_T51 l1 x13_1).f0) _ _ ((rd_T51 l1 x13_1).f1) ((rd_T51 l1 x13_1).f2) true _ ?side1 ?side2 ?side3 ?side4 ?side5 ?side6 ?side7 ?side8 A8.out).mono ?_
          (case side1=>repeat (first|exact (Kd.C_below HR412_0.out HB.out)|(with_reducible refine Kd.C_alloc ?_ _)|(with_reducible refine Kd.C_drewN ?_ _)|(with_reducible refine Kd.C_drew ?_)))
          (case side2=>exact HC412_0.out)
          (case side3=>repeat (first|exact (Kd.C_below HR412_1.out HB.out)|(with_reducible refine Kd.C_alloc ?_ _)|(with_reducible refine Kd.C_drewN ?_ _)|(with_reducible refine Kd.C_drew ?_)))
          (case side4=>exact HC412_1.out)
          (case side5=>repeat (first|exact (Kd.C_below HR413_0.out HB.out)|(with_reducible refine Kd.C_alloc ?_ _)|(with_reducible refine Kd.C_drewN ?_ _)|(with_reducible refine Kd.C_drew ?_)))
          (case side6=>exact HC413_0.out)
          (case side7=>repeat (first|exact (Kd.C_below HR413_1.out HB.out)|(with_reducible refine Kd.C_alloc ?_ _)|(with_reducible refine Kd.C_drewN ?_ _)|(with_reducible refine Kd.C_drew ?_)))
          (case side8=>exact HC413_1.out)
          rintro e w11 ⟨rfl,hb⟩
          refine ⟨_,rfl,?_⟩
          have n0_:=z_ (below_step (by repeat (first|(with_reducible first|exact HB.out|apply below_alloc|apply pw_below_drewN|apply below_drew1)|exact HB.out)) hb)
          clear HB
          have HB:=n0_
          clear n0_
          (try clear hb)
          (try clear hb2)
          (try clear hk)
          (try clear hi)
          refine hK.out _ _ ⟨((HB.out.cell (World.block_lt_of_cell? w _ hw412_0)).trans hw412_0),((HB.out.cell (World.block_lt_of_cell? w _ hw412_1)).trans hw412_1),((HB.out.cell (World.block_lt_of_cell? w _ hw412_2)).trans hw412_2),((HB.out.cell (World.block_lt_of_cell? w _ hw413_0)).trans hw413_0),((HB.out.cell (World.block_lt_of_cell? w _ hw413_1)).trans hw413_1),((HB.out.cell (World.block_lt_of_cell? w _ hw413_2)).trans hw413_2)⟩ (fun hHeld=>?_)
          clear hK K
          refine norm_ (a':=?_) ?_ ?_
          rotate_left
          ·show Act.put _ (some 24) _=_
           simp only [pq_]
           rfl
          refine pure_ (i:=9) (N:=some 25) (v:=?_) (a':=?_) (bt_ 10 1023) rfl rfl (any_of HT_.out (by kernel_rfl)) (fun _ _ _ h=>h) (Or.inl ⟨by rfl,?_⟩) ?_ ?_
          rotate_left
          ·intro w'
           go_simp
           with_reducible rfl
          rotate_left
          ·simp only [pq_]
           rfl
          refine done_ (done_of HT_.out (by kernel_rfl)) ?_
          try go_wp2
          go_roundg k1
          case measure=>have:=HK1.out;omega
          case rel=>exact ⟨(wrap64 (x13_1+1)),(by first|rfl|(simp;done)|(simp [*];done)),H',⟨by have:=HK1.out;omega⟩,⟨by repeat (first|(with_reducible first|exact HB.out|apply below_alloc|apply pw_below_drewN|apply below_drew1)|exact HB.out)⟩⟩
         ·replace c9:=Bool.eq_false_iff.mpr c9
          subst c9
          have H1:(some false)=some r:=by rw [if_neg (show ¬(false=true) by decide)] at H;exact H
          clear H
          have H:=H1
          clear H1
          obtain rfl:=Option.some.inj H
          try go_wp2
          have n0_:=z_ (below_drew1 HB.out)
          clear HB
          have HB:=n0_
          clear n0_
          have p412:0<=(x13_1:Int):=of_decide_eq_true (by first|(with_reducible assumption)|assumption)
          have q412:x13_1<(l0.length:Int):=of_decide_eq_true (by first|(with_reducible assumption)|assumption)
          obtain ⟨ad412,A412_0,c412_0,A412_1,c412_1,e412,hx412_0,hx412_1,hx412_2,hl412_0,hi412_0,hl412_1,hi412_1⟩:=at_T51 HR0.out x13_1 p412 q412
          have hw412_2:=hx412_2
          have hw412_1:=hx412_1
          have hw412_0:=hx412_0
          cases e412
          replace hx412_0:=(HB.out.cell (World.block_lt_of_cell? w _ hx412_0)).trans hx412_0
          replace hx412_1:=(HB.out.cell (World.block_lt_of_cell? w _ hx412_1)).trans hx412_1
          replace hx412_2:=(HB.out.cell (World.block_lt_of_cell? w _ hx412_2)).trans hx412_2
          have HR412_0:=z_ hi412_0
          have HC412_0:=z_ hl412_0
          clear hi412_0 hl412_0
          have HR412_1:=z_ hi412_1
          have HC412_1:=z_ hl412_1
          clear hi412_1 hl412_1
          replace p412:=eq_true p412
          replace q412:=eq_true q412
          have p413:0<=(x13_1:Int):=of_decide_eq_true (by first|(with_reducible assumption)|assumption)
          have q413:x13_1<(l1.length:Int):=of_decide_eq_true (by first|(with_reducible assumption)|assumption)
          obtain ⟨ad413,A413_0,c413_0,A413_1,c413_1,e413,hx413_0,hx413_1,hx413_2,hl413_0,hi413_0,hl413_1,hi413_1⟩:=at_T51 HR1.out x13_1 p413 q413
          have hw413_2:=hx413_2
          have hw413_1:=hx413_1
          have hw413_0:=hx413_0
          cases e413
          replace hx413_0:=(HB.out.cell (World.block_lt_of_cell? w _ hx413_0)).trans hx413_0
          replace hx413_1:=(HB.out.cell (World.block_lt_of_cell? w _ hx413_1)).trans hx413_1
          replace hx413_2:=(HB.out.cell (World.block_lt_of_cell? w _ hx413_2)).trans hx413_2
          have HR413_0:=z_ hi413_0
          have HC413_0:=z_ hl413_0
          clear hi413_0 hl413_0
          have HR413_1:=z_ hi413_1
          have HC413_1:=z_ hl413_1
          clear hi413_1 hl413_1
          replace p413:=eq_true p413
          replace q413:=eq_true q413
          refine start_ (n:=10) (S:=fun w'=>w'.cell? (ad412.add ((x13_1).toNat*3))=some (.slice A412_0 ((rd_T51 l0 x13_1).f0).length c412_0)/\w'.cell? ⟨(ad412.add ((x13_1).toNat*3)).block,(ad412.add ((x13_1).toNat*3)).off+1,none⟩=some (.slice A412_1 ((rd_T51 l0 x13_1).f1).length c412_1)/\w'.cell? ⟨(ad412.add ((x13_1).toNat*3)).block,(ad412.add ((x13_1).toNat*3)).off+2,none⟩=some (.int .i64 ((rd_T51 l0 x13_1).f2))/\w'.cell? (ad413.add ((x13_1).toNat*3))=some (.slice A413_0 ((rd_T51 l1 x13_1).f0).length c413_0)/\w'.cell? ⟨(ad413.add ((x13_1).toNat*3)).block,(ad413.add ((x13_1).toNat*3)).off+1,none⟩=some (.slice A413_1 ((rd_T51 l1 x13_1).f1).length c413_1)/\w'.cell? ⟨(ad413.add ((x13_1).toNat*3)).block,(ad413.add ((x13_1).toNat*3)).off+2,none⟩=some (.int .i64 ((rd_T51 l1 x13_1).f2))) (ds:=[]) (bt_ 10 0) (by kernel_rfl) rfl rfl ⟨((HB.out.cell (World.block_lt_of_cell? w _ hw412_0)).trans hw412_0),((HB.out.cell (World.block_lt_of_cell? w _ hw412_1)).trans hw412_1),((HB.out.cell (World.block_lt_of_cell? w _ hw412_2)).trans hw412_2),((HB.out.cell (World.block_lt_of_cell? w _ hw413_0)).trans hw413_0),((HB.out.cell (World.block_lt_of_cell? w _ hw413_1)).trans hw413_1),((HB.out.cell (World.block_lt_of_cell? w _ hw413_2)).trans hw413_2)⟩ (fun hHeld=>?_);refine with_tabW annalsref10_SameItems.tab6 annalsref10_SameItems.bits6 (fun HT_ HW_=>?_)
          generalize wr.drew=w12 at HB HR412_0 HR412_1 HR413_0 HR413_1 hx412_0 hx412_1 hx412_2 hx413_0 hx413_1 hx413_2 hHeld ⊢
          refine pure_ (i:=0) (N:=some 16) (v:=?_) (a':=?_) (bt_ 10 1) rfl rfl (any_of HT_.out (by kernel_rfl)) (fun _ _ _ h=>h) (Or.inl ⟨by rfl,?_⟩) ?_ ?_
          rotate_left
          ·intro w'
           go_simp
           with_reducible rfl
          rotate_left
          ·simp only [pq_]
           rfl
          refine pure_ (i:=1) (N:=some 17) (v:=?_) (a':=?_) (bt_ 10 3) rfl rfl (any_of HT_.out (by kernel_rfl)) (fun _ _ _ h=>h) (Or.inl ⟨by rfl,?_⟩) ?_ ?_
          rotate_left
          ·intro w'
           go_simp
           with_reducible rfl
          rotate_left
          ·simp only [pq_]
           rfl
          refine pure_ (i:=2) (N:=some 18) (v:=?_) (a':=?_) (bt_ 10 7) rfl rfl (any_of HT_.out (by kernel_rfl)) (fun _ _ _ h=>h) (Or.inl ⟨by rfl,?_⟩) ?_ ?_
          rotate_left
          ·intro w'
           go_simp
           with_reducible rfl
          rotate_left
          ·simp only [pq_]
           rfl
          refine pure_ (i:=4) (N:=some 20) (v:=?_) (a':=?_) (bt_ 10 23) rfl rfl (any_of HT_.out (by kernel_rfl)) (fun _ _ _ h=>h) (Or.inl ⟨by rfl,?_⟩) ?_ ?_
          rotate_left
          ·intro w'
           go_simp
           with_reducible rfl
          rotate_left
          ·simp only [pq_]
           rfl
          refine pure_ (i:=5) (N:=some 21) (v:=?_) (a':=?_) (bt_ 10 55) rfl rfl (any_of HT_.out (by kernel_rfl)) (fun _ _ _ h=>h) (Or.inl ⟨by rfl,?_⟩) ?_ ?_
          rotate_left
          ·intro w'
           go_simp
           with_reducible rfl
          rotate_left
          ·simp only [pq_]
           rfl
          refine pure_ (i:=6) (N:=some 22) (v:=?_) (a':=?_) (bt_ 10 119) rfl rfl (any_of HT_.out (by kernel_rfl)) (fun _ _ _ h=>h) (Or.inl ⟨by rfl,?_⟩) ?_ ?_
          rotate_left
          ·intro w'
           go_simp
           with_reducible rfl
          rotate_left
          ·simp only [pq_]
           rfl
          refine take_ (i:=3) (N:=some 19) (v:=?_) (a':=?_) (bt_ 10 127) rfl rfl (take_ofW HT_.out HW_.out (by kernel_rfl)) (fun _ _ _ h=>h) (Or.inl ⟨by rfl,?_⟩) hHeld ?_ ?_
          rotate_left
          ·rintro w' ⟨s0,s1,s2,s3,s4,s5⟩
           go_simp
           with_reducible rfl
          rotate_left
          ·simp only [pq_]
           rfl
          refine take_ (i:=7) (N:=some 23) (v:=?_) (a':=?_) (bt_ 10 255) rfl rfl (take_ofW HT_.out HW_.out (by kernel_rfl)) (fun _ _ _ h=>h) (Or.inl ⟨by rfl,?_⟩) hHeld ?_ ?_
          rotate_left
          ·rintro w' ⟨s0,s1,s2,s3,s4,s5⟩
           go_simp
           with_reducible rfl
          rotate_left
          ·simp only [pq_]
           rfl
          refine one_ (i:=8) (N:=some 24) (bt_ 10 511) rfl rfl (one_of HT_.out (by kernel_rfl)) (by decide) (fun K hK=>?_)
          refine goes_ Tryd.func71 (by kernel_rfl) rfl #[.agg #[.slice A412_0 ((rd_T51 l0 x13_1).f0).length c412_0,.slice A412_1 ((rd_T51 l0 x13_1).f1).length c412_1,.int .i64 ((rd_T51 l0 x13_1).f2)],.agg #[.slice A413_0 ((rd_T51 l1 x13_1).f0).length c413_0,.slice A413_1 ((rd_T51 l1 x13_1).f1).length c413_1,.int .i64 ((rd_T51 l1 x13_1).f2)]] (by rfl) rfl rfl (by (try simp only [List.map_toArray,List.map_cons,List.map_nil]);first|done|rfl|(simp only [List.length_drop,List.length_take];rfl)) ?_
          with_reducible refine (annalsref10_SameItem.calls _ _ ((rd_T51 l0 x13_1).f0) _ _ ((rd_T51 l0 x13_1).f1) ((rd_T51 l0 x13_1).f2) _ _ ((rd_T51 l1 x13_1).f0) _ _ ((rd_T51 l1 x13_1).f1) ((rd_T51 l1 x13_1).f2) false _ ?side1 ?side2 ?side3 ?side4 ?side5 ?side6 ?side7 ?side8 A8.out).mono ?_
          (case side1=>repeat (first|exact (Kd.C_below HR412_0.out HB.out)|(with_reducible refine Kd.C_alloc ?_ _)|(with_reducible refine Kd.C_drewN ?_ _)|(with_reducible refine Kd.C_drew ?_)))
          (case side2=>exact HC412_0.out)
          (case side3=>repeat (first|exact (Kd.C_below HR412_1.out HB.out)|(with_reducible refine Kd.C_alloc ?_ _)|(with_reducible refine Kd.C_drewN ?_ _)|(with_reducible refine Kd.C_drew ?_)))
          (case side4=>exact HC412_1.out)
          (case side5=>repeat (first|exact (Kd.C_below HR413_0.out HB.out)|(with_reducible refine Kd.C_alloc ?_ _)|(with_reducible refine Kd.C_drewN ?_ _)|(with_reducible refine Kd.C_drew ?_)))
          (case side6=>exact HC413_0.out)
          (case side7=>repeat (first|exact (Kd.C_below HR413_1.out HB.out)|(with_reducible refine Kd.C_alloc ?_ _)|(with_reducible refine Kd.C_drewN ?_ _)|(with_reducible refine Kd.C_drew ?_)))
          (case side8=>exact HC413_1.out)
          rintro e w13 ⟨rfl,hb⟩
          refine ⟨_,rfl,?_⟩
          have n0_:=z_ (below_step (by repeat (first|(with_reducible first|exact HB.out|apply below_alloc|apply pw_below_drewN|apply below_drew1)|exact HB.out)) hb)
          clear HB
          have HB:=n0_
          clear n0_
          (try clear hb)
          (try clear hb2)
          (try clear hk)
          (try clear hi)
          refine hK.out _ _ ⟨((HB.out.cell (World.block_lt_of_cell? w _ hw412_0)).trans hw412_0),((HB.out.cell (World.block_lt_of_cell? w _ hw412_1)).trans hw412_1),((HB.out.cell (World.block_lt_of_cell? w _ hw412_2)).trans hw412_2),((HB.out.cell (World.block_lt_of_cell? w _ hw413_0)).trans hw413_0),((HB.out.cell (World.block_lt_of_cell? w _ hw413_1)).trans hw413_1),((HB.out.cell (World.block_lt_of_cell? w _ hw413_2)).trans hw413_2)⟩ (fun hHeld=>?_)
          clear hK K
          refine norm_ (a':=?_) ?_ ?_
          rotate_left
          ·show Act.put _ (some 24) _=_
           simp only [pq_]
           rfl
          refine pure_ (i:=9) (N:=some 25) (v:=?_) (a':=?_) (bt_ 10 1023) rfl rfl (any_of HT_.out (by kernel_rfl)) (fun _ _ _ h=>h) (Or.inl ⟨by rfl,?_⟩) ?_ ?_
          rotate_left
          ·intro w'
           go_simp
           with_reducible rfl
          rotate_left
          ·simp only [pq_]
           rfl
          refine done_ (done_of HT_.out (by kernel_rfl)) ?_
          try go_wp2
          go_ret
          exact ⟨by first|rfl|(simp [errW_none,errW_some]<;>rfl)|(simp [*,errW_none,errW_some]<;>rfl),by repeat (first|(with_reducible first|exact HB.out|apply below_alloc|apply pw_below_drewN|apply below_drew1)|exact HB.out)⟩
        ·rw [if_neg c7] at H
         exact absurd H (by simp)
       ·rw [if_neg c6] at H
        exact absurd H (by simp)
      ·rw [if_neg c5] at H
       exact absurd H (by simp)
     ·rw [if_neg c4] at H
      have c4b0:decide (x13_1<(l0.length:Int))=false:=decide_eq_false c4
      clear c4
      obtain rfl:=Option.some.inj H
      go_wp2
      go_ret
      exact ⟨by first|rfl|(simp [errW_none,errW_some]<;>rfl)|(simp [*,errW_none,errW_some]<;>rfl),by repeat (first|(with_reducible first|exact HB.out|apply below_alloc|apply pw_below_drewN|apply below_drew1)|exact HB.out)⟩
 ·rw [if_neg c3] at H
  have c3b0:((l0.length:Int)==(l1.length:Int))=false:=beq_eq_false_iff_ne.mpr c3
  have c3b1:((l0.length:Int) !=(l1.length:Int))=true:=bne_iff_ne.mpr c3
  have c3b2:(l0.length==l1.length)=false:=by first|simpa using c3|(simp at c3 ⊢;omega)
  obtain rfl:=Option.some.inj H
  go_enter Tryd.func34,Tryd.ntmps34
  go_wp2
  go_ret
  exact ⟨by first|rfl|(simp [errW_none,errW_some]<;>rfl)|(simp [*,errW_none,errW_some]<;>rfl),by repeat (first|(with_reducible first|exact HB.out|apply below_alloc|apply pw_below_drewN|apply below_drew1)|exact HB.out)⟩
end Go.Proofs.YtdeneoknjeegbaaDoor.P
end
section
namespace Go.Proofs.YtdeneoknjeegbaaDoor.P
open Go Go.RowKit YtdeneoknjeegbaaDoor.Pure YtdeneoknjeegbaaDoorW.PrintWords YtdeneoknjeegbaaDoorW.PrintLast YtdeneoknjeegbaaDoorW.PrintMore
def cutP (p:S59):S59:=⟨p.f0.take 30,p.f1.take 100,p.f2⟩
def fewL (l:List S59):List S59:=(l.take 30).map cutP
theorem mn_take (l:List Int) (n:Nat):0<=mn (l.length:Int) (n:Int)/\mn (l.length:Int) (n:Int)<=(l.length:Int)/\l.take (mn (l.length:Int) (n:Int)).toNat=l.take n:=by
 unfold mn
 split
 ·exact ⟨by omega,by omega,by rw [Int.toNat_natCast]⟩
 ·refine ⟨by omega,Int.le_refl _,?_⟩
  rw [Int.toNat_natCast,List.take_of_length_le (Nat.le_refl _),List.take_of_length_le (by omega)]
theorem few_l0 (l:List S59) (hl:l.length<=9223372036854775807) : ∀(k i:Nat) (out:List S59),i<=l.length->l.length-i<k->out.length<=i->annalslaw10_few.l0 k out l (l.length:Int) (i:Int)=some (out++((l.take 30).drop i).map cutP)
 | 0,i,out,h1,h2,h3=>by omega
 | k+1,i,out,h1,h2,h3=>by
   unfold annalslaw10_few.l0
   by_cases hi:i<l.length
   ·have hw:wrap64 ((i:Int)+1)=((i+1:Nat):Int):=by rw [wrap64_id _ (by omega)];omega
    rw [if_pos (show (i:Int)<(l.length:Int) by omega),if_pos (show 0<=(i:Int) by omega),if_pos (show (i:Int)<(l.length:Int) by omega)]
    by_cases h30:i<30
    ·obtain ⟨a1,a2,a3⟩:=mn_take (rd_T59 l (i:Int)).f0 30
     obtain ⟨b1,b2,b3⟩:=mn_take (rd_T59 l (i:Int)).f1 100
     have e1:((30:Nat):Int)=30:=rfl
     have e2:((100:Nat):Int)=100:=rfl
     rw [e1] at a1 a2 a3
     rw [e2] at b1 b2 b3
     rw [if_pos (show (i:Int)<30 by omega),if_pos a1,if_pos a2,if_pos b1,if_pos b2,if_pos (by omega),a3,b3,hw,few_l0 l hl k (i+1) _ (by omega) (by omega) (by rw [List.length_append];show out.length+1<=i+1;omega)]
     have hd:(l.take 30).drop i=rd_T59 l (i:Int) :: (l.take 30).drop (i+1):=by
      rw [List.drop_eq_getElem_cons (by rw [List.length_take];omega),List.getElem_take]
      unfold rd_T59
      rw [List.getD_eq_getElem?_getD,Int.toNat_natCast,List.getElem?_eq_getElem hi]
      rfl
     rw [hd,List.map_cons,List.append_assoc]
     rfl
    ·rw [if_neg (show ¬(i:Int)<30 by omega),hw,few_l0 l hl k (i+1) _ (by omega) (by omega) (by omega)]
     rw [List.drop_of_length_le (by rw [List.length_take];omega),List.drop_of_length_le (by rw [List.length_take];omega)]
   ·rw [if_neg (by omega),List.drop_of_length_le (by rw [List.length_take];omega)]
    simp
theorem few_f (l:List S59) (hl:l.length<=9223372036854775807):annalslaw10_few.f (l.length+1) l=some (fewL l):=by
 unfold annalslaw10_few.f
 have:=few_l0 l hl (l.length+1) 0 [] (by omega) (by omega) (by simp)
 rw [show ((0:Nat):Int)=0 from rfl] at this
 rw [this]
 rfl
theorem same_item (a b:List Int) (c:Int):annalsref10_SameItem.f a b c a b c=some true:=by
 unfold annalsref10_SameItem.f
 rw [if_pos rfl,if_pos rfl]
 simp
theorem same_l0 (l:List S51) (hl:l.length<=9223372036854775807) : ∀(k i:Nat),i<=l.length->l.length-i<k->annalsref10_SameItems.l0 k l l (l.length:Int) (i:Int)=some true
 | 0,i,h1,h2=>by omega
 | k+1,i,h1,h2=>by
   unfold annalsref10_SameItems.l0
   by_cases hi:i<l.length
   ·have hw:wrap64 ((i:Int)+1)=((i+1:Nat):Int):=by rw [wrap64_id _ (by omega)];omega
    rw [if_pos (by omega),if_pos (by omega),if_pos (by omega),if_pos (by omega),same_item,Option.bind_some,if_pos rfl,hw]
    exact same_l0 l hl k (i+1) (by omega) (by omega)
   ·rw [if_neg (by omega)]
theorem same_f (l:List S51) (hl:l.length<=9223372036854775807):annalsref10_SameItems.f (l.length+1) l l=some true:=by
 unfold annalsref10_SameItems.f
 rw [if_pos rfl]
 exact same_l0 l hl (l.length+1) 0 (by omega) (by omega)
end Go.Proofs.YtdeneoknjeegbaaDoor.P
end
section
namespace Go.Proofs.YtdeneoknjeegbaaDoor.P
open Go.RowKit YtdeneoknjeegbaaDoorW.PrintWords YtdeneoknjeegbaaDoorW.PrintLast YtdeneoknjeegbaaDoorW.PrintMore
def annalsref03_Key.f (l0:List Int):Option (List Int):=some (keyB l0)
theorem annalsref03_Key.calls (A0:Option Addr) (c0:Nat) (l0:List Int) (r:List Int) (w:World) (hr0:Kd.C (Kd.int .u8) w A0 l0.length l0) (hc0:l0.length<=c0) (h:annalsref03_Key.f l0=some r):
 Calls Tryd.prog 60 #[.slice A0 l0.length c0] w fun e w'=>∃v0_:Value,e = .returned (v0_)/\Kd.R (Kd.int .u8) 5 w' w.heap.size (fun _=>True) v0_ r/\Below w.heap.size w w':=by
 obtain rfl:=Option.some.inj h
 exact rkey_calls A0 c0 l0 w hr0 hc0
end Go.Proofs.YtdeneoknjeegbaaDoor.P
end
section
namespace Go.Proofs.YtdeneoknjeegbaaDoor.P
open Go.RowKit YtdeneoknjeegbaaDoorW.PrintWords YtdeneoknjeegbaaDoorW.PrintLast YtdeneoknjeegbaaDoorW.PrintMore
attribute [local go_sem] max2_int min2_int max_two min_two max_three min_three max_four min_four
def annalsref03_Order.f (l0:List Int) (l1:List Int):Option (Int):=(annalsref03_Key.f l0).bind fun t404=>((annalsref03_Key.f l1).bind fun t407=>(if (Op.bytesLess ((strOfNums t404).toList) ((strOfNums t407).toList))=true then (some (-1)) else (if (Op.bytesLess ((strOfNums t407).toList) ((strOfNums t404).toList))=true then (some 1) else (some 0))))
def annalsref03_Order.T1:Bool×List (List Nat×List Nat):=(true,[([],[]),([0],[0]),([1],[1]),([],[]),([3,1],[3]),([4],[4]),([2,4,0,1,2],[2]),([5,6,0,1,2,3,4,5,6],[5])])
def annalsref03_Order.B1:List Nat:=[0,1,3,0,11,27,31,127]
theorem annalsref03_Order.tab1:rtab .any (opsOf Tryd.f32 1)=annalsref03_Order.T1:=by kernel_rfl
theorem annalsref03_Order.bits1:waitsOk annalsref03_Order.T1.2 annalsref03_Order.B1=true:=by kernel_rfl
set_option maxHeartbeats 8000000 in
set_option maxRecDepth 100000 in
theorem annalsref03_Order.calls (A0:Option Addr) (c0:Nat) (l0:List Int) (A1:Option Addr) (c1:Nat) (l1:List Int) (r:Int) (w:World) (hr0:Kd.C (Kd.int .u8) w A0 l0.length l0) (hc0:l0.length<=c0) (hr1:Kd.C (Kd.int .u8) w A1 l1.length l1) (hc1:l1.length<=c1) (hlt:Op.bytesLess ((strOfNums (keyB l0)).toList) ((strOfNums (keyB l1)).toList)=true) (h:annalsref03_Order.f l0 l1=some r):
 Calls Tryd.prog 32 #[.slice A0 l0.length c0,.slice A1 l1.length c1] w fun e w'=>e = .returned (.int .i64 r)/\Below w.heap.size w w':=by
 have HR0:=z_ hr0
 have HC0:=z_ hc0
 clear hr0 hc0
 have HR1:=z_ hr1
 have HC1:=z_ hc1
 clear hr1 hc1
 have HB:=z_ (Below.refl w.heap.size w)
 have H:((annalsref03_Key.f l0).bind fun t404=>((annalsref03_Key.f l1).bind fun t407=>(if (Op.bytesLess ((strOfNums t404).toList) ((strOfNums t407).toList))=true then (some (-1)) else (if (Op.bytesLess ((strOfNums t407).toList) ((strOfNums t404).toList))=true then (some 1) else (some 0)))))=some r:=h
 clear h
 replace H:=Option.bind_eq_some_iff.mp H
 obtain ⟨t404,A30,H⟩:=H
 replace H:((annalsref03_Key.f l1).bind fun t407=>(if (Op.bytesLess ((strOfNums t404).toList) ((strOfNums t407).toList))=true then (some (-1)) else (if (Op.bytesLess ((strOfNums t407).toList) ((strOfNums t404).toList))=true then (some 1) else (some 0))))=some r:=H
 have A3:=z_ A30
 clear A30
 replace H:=Option.bind_eq_some_iff.mp H
 obtain ⟨t407,A40,H⟩:=H
 replace H:(if (Op.bytesLess ((strOfNums t404).toList) ((strOfNums t407).toList))=true then (some (-1)) else (if (Op.bytesLess ((strOfNums t407).toList) ((strOfNums t404).toList))=true then (some 1) else (some 0)))=some r:=H
 have A4:=z_ A40
 clear A40
 by_cases c5:(Op.bytesLess ((strOfNums t404).toList) ((strOfNums t407).toList))=true
 ·rw [if_pos c5] at H
  have c5b0:(Op.bytesLess ((strOfNums t404).toList) ((strOfNums t407).toList))=true:=c5
  clear c5
  obtain rfl:=Option.some.inj H
  go_enter Tryd.func32,Tryd.ntmps32
  try go_wp2
  have n0_:=z_ (below_drew1 HB.out)
  clear HB
  have HB:=n0_
  clear n0_
  refine start_ (n:=8) (S:=fun w'=>True) (ds:=[]) (bt_ 8 0) (by kernel_rfl) rfl rfl trivial (fun hHeld=>?_);refine with_tabW annalsref03_Order.tab1 annalsref03_Order.bits1 (fun HT_ HW_=>?_)
  generalize w.drew=w6 at HB hHeld ⊢
  refine pure_ (i:=0) (N:=some 7) (v:=?_) (a':=?_) (bt_ 8 1) rfl rfl (any_of HT_.out (by kernel_rfl)) (fun _ _ _ h=>h) (Or.inl ⟨by rfl,?_⟩) ?_ ?_
  rotate_left
  ·intro w'
   go_simp
   with_reducible rfl
  rotate_left
  ·simp only [pq_]
   rfl
  refine pure_ (i:=3) (N:=some 10) (v:=?_) (a':=?_) (bt_ 8 9) rfl rfl (any_of HT_.out (by kernel_rfl)) (fun _ _ _ h=>h) (Or.inl ⟨by rfl,?_⟩) ?_ ?_
  rotate_left
  ·intro w'
   go_simp
   with_reducible rfl
  rotate_left
  ·simp only [pq_]
   rfl
  refine one_ (i:=1) (N:=some 8) (bt_ 8 11) rfl rfl (one_of HT_.out (by kernel_rfl)) (by decide) (fun K hK=>?_)
  refine goes_ Tryd.func60 (by kernel_rfl) rfl #[.slice A0 l0.length c0] (by rfl) rfl rfl (by (try simp only [List.map_toArray,List.map_cons,List.map_nil]);first|done|rfl|(simp only [List.length_drop,List.length_take];rfl)) ?_
  with_reducible refine (annalsref03_Key.calls _ _ l0 t404 _ ?side1 ?side2 A3.out).mono ?_
  (case side1=>repeat (first|exact (Kd.C_below HR0.out HB.out)|(with_reducible refine Kd.C_alloc ?_ _)|(with_reducible refine Kd.C_drewN ?_ _)|(with_reducible refine Kd.C_drew ?_)))
  (case side2=>exact HC0.out)
  rintro e w7 ⟨v405,rfl,ho0,hb⟩
  refine ⟨_,rfl,?_⟩
  have n0_:=z_ (Kd.R_lower ho0 (below_size (by repeat (first|(with_reducible first|exact HB.out|apply below_alloc|apply pw_below_drewN|apply below_drew1)|exact HB.out))))
  have n1_:=z_ (below_step (by repeat (first|(with_reducible first|exact HB.out|apply below_alloc|apply pw_below_drewN|apply below_drew1)|exact HB.out)) hb)
  clear HB
  have HO406:=n0_
  have HB:=n1_
  clear n0_ n1_
  (try clear hb)
  (try clear hb2)
  (try clear hk)
  (try clear hi)
  (try clear ho0)
  refine hK.out _ _ trivial (fun hHeld=>?_)
  clear hK K
  refine norm_ (a':=?_) ?_ ?_
  rotate_left
  ·show Act.put _ (some 8) _=_
   simp only [pq_]
   rfl
  refine join_ (σ:=Value) 1 (bt_ 8 127) (fun s_=>[(9,.string (strOfNums t404)),(11,s_),(12,.string (strOfNums t407)),(5,.string (strOfNums t404))]) (fun s_ w'=>(Kd.R (Kd.int .u8) 5 w' w.heap.size (fun k_=>some k_≠(s_:Value).ownBlock) v405 t404)/\(Kd.R (Kd.int .u8) 5 w' w.heap.size (fun k_=>some k_≠(v405:Value).ownBlock) s_ t407)/\(Below w.heap.size w w')) ?_ ?_
  rotate_left
  ·intro hCont
   refine two_ (i:=2) (j:=4) (Ni:=some 9) (Nj:=some 11) (bt_ 8 15) (bt_ 8 27) rfl rfl rfl rfl (two_of HT_.out (by kernel_rfl)) (by decide) (by decide) (fun K hK=>?_) (fun K hK=>?_)
   ·skip
    have hcv8:=own_string (P:=Tryd.prog) Tryd.underlying31 Tryd.underlying5 Tryd.underlying9 (Kd.own_of_R HO406.out)
    refine value_ (w1:=?_) (v:=?_) (by rfl) rfl ?_ ?_
    rotate_left 2
    ·go_simp
     constructor
     ·rfl
     ·rfl
    clear hcv8
    refine hK.out _ _ trivial (fun hHeld=>?_)
    clear hK K
    refine norm_ (a':=?_) ?_ ?_
    rotate_left
    ·show Act.put _ (some 9) _=_
     simp only [pq_]
     rfl
    refine one_ (i:=4) (N:=some 11) (bt_ 8 31) rfl rfl (one_of HT_.out (by kernel_rfl)) (by decide) (fun K hK=>?_)
    refine goes_ Tryd.func60 (by kernel_rfl) rfl #[.slice A1 l1.length c1] (by rfl) rfl rfl (by (try simp only [List.map_toArray,List.map_cons,List.map_nil]);first|done|rfl|(simp only [List.length_drop,List.length_take];rfl)) ?_
    with_reducible refine (annalsref03_Key.calls _ _ l1 t407 _ ?side1 ?side2 A4.out).mono ?_
    (case side1=>repeat (first|exact (Kd.C_below HR1.out HB.out)|(with_reducible refine Kd.C_alloc ?_ _)|(with_reducible refine Kd.C_drewN ?_ _)|(with_reducible refine Kd.C_drew ?_)))
    (case side2=>exact HC1.out)
    rintro e w9 ⟨v408,rfl,ho0,hb⟩
    refine ⟨_,rfl,?_⟩
    have n0_:=z_ (Kd.R_elder' (by (with_reducible repeat (first|apply Kd.R_alloc|apply Kd.R_drewN|apply Kd.R_drew));exact HO406.out) (Kd.R_base ho0) hb)
    have n1_:=z_ (Kd.R_lower (Kd.R_new' ho0 (Kd.R_lt (by (with_reducible repeat (first|apply Kd.R_alloc|apply Kd.R_drewN|apply Kd.R_drew));exact HO406.out))) (below_size (by repeat (first|(with_reducible first|exact HB.out|apply below_alloc|apply pw_below_drewN|apply below_drew1)|exact HB.out))))
    have n2_:=z_ (below_step (by repeat (first|(with_reducible first|exact HB.out|apply below_alloc|apply pw_below_drewN|apply below_drew1)|exact HB.out)) hb)
    clear HO406
    clear HB
    have HO406:=n0_
    have HO409:=n1_
    have HB:=n2_
    clear n0_ n1_ n2_
    (try clear hb)
    (try clear hb2)
    (try clear hk)
    (try clear hi)
    (try clear ho0)
    refine hK.out _ _ trivial (fun hHeld=>?_)
    clear hK K
    refine norm_ (a':=?_) ?_ ?_
    rotate_left
    ·show Act.put _ (some 11) _=_
     simp only [pq_]
     rfl
    refine pure_ (i:=6) (N:=some 5) (v:=?_) (a':=?_) (bt_ 8 95) rfl rfl (any_of HT_.out (by kernel_rfl)) (fun _ _ _ h=>h) (Or.inl ⟨by rfl,?_⟩) ?_ ?_
    rotate_left
    ·intro w'
     go_simp
     with_reducible rfl
    rotate_left
    ·simp only [pq_]
     rfl
    refine one_ (i:=5) (N:=some 12) (bt_ 8 127) rfl rfl (one_of HT_.out (by kernel_rfl)) (by decide) (fun K hK=>?_)
    have hcv10:=own_string (P:=Tryd.prog) Tryd.underlying31 Tryd.underlying5 Tryd.underlying9 (Kd.own_of_R HO409.out)
    refine value_ (w1:=?_) (v:=?_) (by rfl) rfl ?_ ?_
    rotate_left 2
    ·go_simp
     constructor
     ·rfl
     ·rfl
    clear hcv10
    refine hK.out _ _ trivial (fun hHeld=>?_)
    clear hK K
    refine norm_ (a':=?_) ?_ ?_
    rotate_left
    ·show Act.put _ (some 12) _=_
     simp only [pq_]
     rfl
    exact norm_ (by simp only [putAll,Act.put,List.setIfInBounds_toArray,List.set_cons_zero,List.set_cons_succ]) (hCont (v408) _ ⟨(by (with_reducible repeat (first|apply Kd.R_alloc|apply Kd.R_drewN|apply Kd.R_drew));exact Kd.R_mono HO406.out (fun _ hk=>hk.2)),(by (with_reducible repeat (first|apply Kd.R_alloc|apply Kd.R_drewN|apply Kd.R_drew));exact Kd.R_mono HO409.out (fun _ hk=>hk.2)),(by repeat (first|(with_reducible first|exact HB.out|apply below_alloc|apply pw_below_drewN|apply below_drew1)|exact HB.out))⟩)
   ·skip
    refine goes_ Tryd.func60 (by kernel_rfl) rfl #[.slice A1 l1.length c1] (by rfl) rfl rfl (by (try simp only [List.map_toArray,List.map_cons,List.map_nil]);first|done|rfl|(simp only [List.length_drop,List.length_take];rfl)) ?_
    with_reducible refine (annalsref03_Key.calls _ _ l1 t407 _ ?side1 ?side2 A4.out).mono ?_
    (case side1=>repeat (first|exact (Kd.C_below HR1.out HB.out)|(with_reducible refine Kd.C_alloc ?_ _)|(with_reducible refine Kd.C_drewN ?_ _)|(with_reducible refine Kd.C_drew ?_)))
    (case side2=>exact HC1.out)
    rintro e w8 ⟨v408,rfl,ho0,hb⟩
    refine ⟨_,rfl,?_⟩
    have n0_:=z_ (Kd.R_elder' (by (with_reducible repeat (first|apply Kd.R_alloc|apply Kd.R_drewN|apply Kd.R_drew));exact HO406.out) (Kd.R_base ho0) hb)
    have n1_:=z_ (Kd.R_lower (Kd.R_new' ho0 (Kd.R_lt (by (with_reducible repeat (first|apply Kd.R_alloc|apply Kd.R_drewN|apply Kd.R_drew));exact HO406.out))) (below_size (by repeat (first|(with_reducible first|exact HB.out|apply below_alloc|apply pw_below_drewN|apply below_drew1)|exact HB.out))))
    have n2_:=z_ (below_step (by repeat (first|(with_reducible first|exact HB.out|apply below_alloc|apply pw_below_drewN|apply below_drew1)|exact HB.out)) hb)
    clear HO406
    clear HB
    have HO406:=n0_
    have HO409:=n1_
    have HB:=n2_
    clear n0_ n1_ n2_
    (try clear hb)
    (try clear hb2)
    (try clear hk)
    (try clear hi)
    (try clear ho0)
    refine hK.out _ _ trivial (fun hHeld=>?_)
    clear hK K
    refine norm_ (a':=?_) ?_ ?_
    rotate_left
    ·show Act.put _ (some 11) _=_
     simp only [pq_]
     rfl
    refine two_ (i:=2) (j:=5) (Ni:=some 9) (Nj:=some 12) (bt_ 8 31) (bt_ 8 59) rfl rfl rfl rfl (two_of HT_.out (by kernel_rfl)) (by decide) (by decide) (fun K hK=>?_) (fun K hK=>?_)
    ·skip
     have hcv9:=own_string (P:=Tryd.prog) Tryd.underlying31 Tryd.underlying5 Tryd.underlying9 (Kd.own_of_R HO406.out)
     refine value_ (w1:=?_) (v:=?_) (by rfl) rfl ?_ ?_
     rotate_left 2
     ·go_simp
      constructor
      ·rfl
      ·rfl
     clear hcv9
     refine hK.out _ _ trivial (fun hHeld=>?_)
     clear hK K
     refine norm_ (a':=?_) ?_ ?_
     rotate_left
     ·show Act.put _ (some 9) _=_
      simp only [pq_]
      rfl
     refine pure_ (i:=6) (N:=some 5) (v:=?_) (a':=?_) (bt_ 8 95) rfl rfl (any_of HT_.out (by kernel_rfl)) (fun _ _ _ h=>h) (Or.inl ⟨by rfl,?_⟩) ?_ ?_
     rotate_left
     ·intro w'
      go_simp
      with_reducible rfl
     rotate_left
     ·simp only [pq_]
      rfl
     refine one_ (i:=5) (N:=some 12) (bt_ 8 127) rfl rfl (one_of HT_.out (by kernel_rfl)) (by decide) (fun K hK=>?_)
     have hcv10:=own_string (P:=Tryd.prog) Tryd.underlying31 Tryd.underlying5 Tryd.underlying9 (Kd.own_of_R HO409.out)
     refine value_ (w1:=?_) (v:=?_) (by rfl) rfl ?_ ?_
     rotate_left 2
     ·go_simp
      constructor
      ·rfl
      ·rfl
     clear hcv10
     refine hK.out _ _ trivial (fun hHeld=>?_)
     clear hK K
     refine norm_ (a':=?_) ?_ ?_
     rotate_left
     ·show Act.put _ (some 12) _=_
      simp only [pq_]
      rfl
     exact norm_ (by simp only [putAll,Act.put,List.setIfInBounds_toArray,List.set_cons_zero,List.set_cons_succ]) (hCont (v408) _ ⟨(by (with_reducible repeat (first|apply Kd.R_alloc|apply Kd.R_drewN|apply Kd.R_drew));exact Kd.R_mono HO406.out (fun _ hk=>hk.2)),(by (with_reducible repeat (first|apply Kd.R_alloc|apply Kd.R_drewN|apply Kd.R_drew));exact Kd.R_mono HO409.out (fun _ hk=>hk.2)),(by repeat (first|(with_reducible first|exact HB.out|apply below_alloc|apply pw_below_drewN|apply below_drew1)|exact HB.out))⟩)
    ·skip
     have hcv9:=own_string (P:=Tryd.prog) Tryd.underlying31 Tryd.underlying5 Tryd.underlying9 (Kd.own_of_R HO409.out)
     refine value_ (w1:=?_) (v:=?_) (by rfl) rfl ?_ ?_
     rotate_left 2
     ·go_simp
      constructor
      ·rfl
      ·rfl
     clear hcv9
     refine hK.out _ _ trivial (fun hHeld=>?_)
     clear hK K
     refine norm_ (a':=?_) ?_ ?_
     rotate_left
     ·show Act.put _ (some 12) _=_
      simp only [pq_]
      rfl
     refine one_ (i:=2) (N:=some 9) (bt_ 8 63) rfl rfl (one_of HT_.out (by kernel_rfl)) (by decide) (fun K hK=>?_)
     have hcv10:=own_string (P:=Tryd.prog) Tryd.underlying31 Tryd.underlying5 Tryd.underlying9 (Kd.own_of_R HO406.out)
     refine value_ (w1:=?_) (v:=?_) (by rfl) rfl ?_ ?_
     rotate_left 2
     ·go_simp
      constructor
      ·rfl
      ·rfl
     clear hcv10
     refine hK.out _ _ trivial (fun hHeld=>?_)
     clear hK K
     refine norm_ (a':=?_) ?_ ?_
     rotate_left
     ·show Act.put _ (some 9) _=_
      simp only [pq_]
      rfl
     refine pure_ (i:=6) (N:=some 5) (v:=?_) (a':=?_) (bt_ 8 127) rfl rfl (any_of HT_.out (by kernel_rfl)) (fun _ _ _ h=>h) (Or.inl ⟨by rfl,?_⟩) ?_ ?_
     rotate_left
     ·intro w'
      go_simp
      with_reducible rfl
     rotate_left
     ·simp only [pq_]
      rfl
     exact norm_ (by simp only [putAll,Act.put,List.setIfInBounds_toArray,List.set_cons_zero,List.set_cons_succ]) (hCont (v408) _ ⟨(by (with_reducible repeat (first|apply Kd.R_alloc|apply Kd.R_drewN|apply Kd.R_drew));exact Kd.R_mono HO406.out (fun _ hk=>hk.2)),(by (with_reducible repeat (first|apply Kd.R_alloc|apply Kd.R_drewN|apply Kd.R_drew));exact Kd.R_mono HO409.out (fun _ hk=>hk.2)),(by repeat (first|(with_reducible first|exact HB.out|apply below_alloc|apply pw_below_drewN|apply below_drew1)|exact HB.out))⟩)
  rintro v408 w11 ⟨h0_,h1_,h2_⟩
  have n0_:Aside0 (Kd.R (Kd.int .u8) 5 w11 w.heap.size (fun k_=>some k_≠(v408:Value).ownBlock) v405 t404):=⟨h0_⟩
  have n1_:Aside0 (Kd.R (Kd.int .u8) 5 w11 w.heap.size (fun k_=>some k_≠(v405:Value).ownBlock) v408 t407):=⟨h1_⟩
  have n2_:Aside0 (Below w.heap.size w w11):=⟨h2_⟩
  clear HB
  clear h0_ h1_ h2_
  have HO406:=n0_
  have HO409:=n1_
  have HB:=n2_
  clear n0_ n1_ n2_
  have hHeld:=trivial
  refine norm_ (a':=?_) ?_ ?_
  rotate_left
  ·simp only [putAll,Act.put,List.setIfInBounds_toArray,List.set_cons_zero,List.set_cons_succ]
   rfl
  refine pure_ (i:=7) (N:=some 6) (v:=?_) (a':=?_) (bt_ 8 255) rfl rfl (any_of HT_.out (by kernel_rfl)) (fun _ _ _ h=>h) (Or.inl ⟨by rfl,?_⟩) ?_ ?_
  rotate_left
  ·intro w'
   go_simp
   with_reducible rfl
  rotate_left
  ·simp only [pq_]
   rfl
  refine done_ (done_of HT_.out (by kernel_rfl)) ?_
  try go_wp2
  go_ret
  exact ⟨by first|rfl|(simp [errW_none,errW_some]<;>rfl)|(simp [*,errW_none,errW_some]<;>rfl),by repeat (first|(with_reducible first|exact HB.out|apply below_alloc|apply pw_below_drewN|apply below_drew1)|exact HB.out)⟩
 ·exact absurd hlt (by rw [show keyB l0=t404 from Option.some.inj A3.out,show keyB l1=t407 from Option.some.inj A4.out];exact c5)
end Go.Proofs.YtdeneoknjeegbaaDoor.P
end
section
namespace Go.Proofs.YtdeneoknjeegbaaDoor.P
open Go Go.RowKit YtdeneoknjeegbaaDoor.Pure YtdeneoknjeegbaaDoorW.PrintWords YtdeneoknjeegbaaDoorW.PrintLast YtdeneoknjeegbaaDoorW.PrintMore
theorem bitX_lt (x y:Int) (hx:0<=x/\x<=255) (hy:0<=y/\y<=255) (m:Nat) (hm:m<8) (h : ∀i,i<m->bitX x i=bitX y i) (h0:bitX x m=0) (h1:bitX y m=1):x<y:=by
 have e:x/2^(8-m)=y/2^(8-m):=by
  have key : ∀n,n<=m->x/2^(8-n)=y/2^(8-n):=by
   intro n
   induction n with
   | zero=>intro _;rw [show (2:Int)^(8-0)=256 from rfl];omega
   | succ n ih=>
     intro hn
     have h2:=ih (by omega)
     have h3:=h n (by omega)
     unfold bitX at h3
     have h4:(2:Int)^(8-n)=2^(7-n)*2:=by rw [show 8-n=(7-n)+1 by omega,Int.pow_succ]
     rw [h4,<-Int.ediv_ediv_of_nonneg (Int.pow_nonneg (by decide)),<-Int.ediv_ediv_of_nonneg (Int.pow_nonneg (by decide))] at h2
     rw [show 8-(n+1)=7-n by omega]
     omega
  exact key m (Nat.le_refl m)
 unfold bitX at h0 h1
 have h4:(2:Int)^(8-m)=2^(7-m)*2:=by rw [show 8-m=(7-m)+1 by omega,Int.pow_succ]
 rw [h4,<-Int.ediv_ediv_of_nonneg (Int.pow_nonneg (by decide)),<-Int.ediv_ediv_of_nonneg (Int.pow_nonneg (by decide))] at e
 have h5:x/2^(7-m)<y/2^(7-m):=by omega
 rcases Int.lt_or_le x y with h6|h6
 ·exact h6
 ·have:=Int.ediv_le_ediv (show (0:Int)<2^(7-m) from Int.pow_pos (by decide)) h6
  omega
theorem less_bytes : ∀(a b:List Int),BytesOk a->BytesOk b->lessB a b->Op.bytesLess (a.map fun n=>UInt8.ofNat n.toNat) (b.map fun n=>UInt8.ofNat n.toNat)=true
 | [],b,_,_,⟨m,h1,_⟩=>by simp at h1
 | x :: a,[],_,_,⟨m,_,h2,_⟩=>by simp at h2
 | x :: a,y :: b,ha,hb,⟨m,h1,h2,h3,h4,h5⟩=>by
   have hx:=ha x (by simp)
   have hy:=hb y (by simp)
   show (decide (UInt8.ofNat x.toNat<UInt8.ofNat y.toNat)||_)=true
   by_cases hm:m<8
   ·rw [bitN_lo x a m hm] at h4
    rw [bitN_lo y b m hm] at h5
    have hlt:=bitX_lt x y (by omega) (by omega) m hm (fun i hi=>by have:=h3 i hi;rwa [bitN_lo x a i (by omega),bitN_lo y b i (by omega)] at this) h4 h5
    rw [decide_eq_true (by rw [UInt8.lt_iff_toNat_lt,UInt8.toNat_ofNat',UInt8.toNat_ofNat'];omega)]
    rfl
   ·have he:x=y:=byte_ext x y (by omega) (by omega) (fun j hj=>by have:=h3 j (by omega);rwa [bitN_lo x a j hj,bitN_lo y b j hj] at this)
    obtain ⟨k,rfl⟩ : ∃k,m=k+8:=⟨m-8,by omega⟩
    rw [bitN_hi] at h4 h5
    have ih:=less_bytes a b (fun z hz=>ha z (List.mem_cons_of_mem _ hz)) (fun z hz=>hb z (List.mem_cons_of_mem _ hz)) ⟨k,by simp at h1;omega,by simp at h2;omega,fun i hi=>by have:=h3 (i+8) (by omega);rwa [bitN_hi,bitN_hi] at this,h4,h5⟩
    rw [he]
    simp only [List.map_cons,beq_self_eq_true,Bool.true_and]
    rw [ih]
    simp
theorem order_lt {a b:List Int} (ha:IdOk a) (hb:IdOk b) (h:lessB (keyB a) (keyB b)):Op.bytesLess ((strOfNums (keyB a)).toList) ((strOfNums (keyB b)).toList)=true:=by
 rw [ByteArray.toList_eq,ByteArray.toList_eq,strOfNums_data,strOfNums_data]
 have:=less_bytes (keyB a) (keyB b) (keyB_bytes ha) (keyB_bytes hb) h
 simpa using this
theorem order_f {a b:List Int} (ha:IdOk a) (hb:IdOk b) (h:lessB (keyB a) (keyB b)):annalsref03_Order.f a b=some (-1):=by
 unfold annalsref03_Order.f annalsref03_Key.f
 rw [Option.bind_some,Option.bind_some,if_pos (order_lt ha hb h)]
theorem order_calls {a b:List Int} (ha:IdOk a) (hb:IdOk b) (h:lessB (keyB a) (keyB b)) (A0:Option Addr) (c0:Nat) (A1:Option Addr) (c1:Nat) (w:World) (hr0:Kd.C (Kd.int .u8) w A0 a.length a) (hc0:a.length<=c0) (hr1:Kd.C (Kd.int .u8) w A1 b.length b) (hc1:b.length<=c1):
 Calls Tryd.prog 32 #[.slice A0 a.length c0,.slice A1 b.length c1] w fun e w'=>e = .returned (.int .i64 (-1))/\Below w.heap.size w w':=
 annalsref03_Order.calls A0 c0 a A1 c1 b (-1) w hr0 hc0 hr1 hc1 (order_lt ha hb h) (order_f ha hb h)
set_option maxRecDepth 100000 in
theorem deep_calls {w:World} {base p:Nat} {size room:Int} {vc vf:Value} {X:Nat->Prop} {cs:Cs} (h:ArenaM w base p size room vc vf X cs) (root:Int) (t:Option PT) (ht:TreeIn size cs root t):
 Calls Tryd.prog 68 #[.pointer (some ⟨p,0,none⟩),.int .i64 root] w fun e w'=>e = .returned (.int .i64 (heightO t:Int))/\Below w.heap.size w w':=by
 have HA:=z_ h
 have HT:=z_ ht
 clear h ht
 obtain ⟨w1,hw1⟩ : ∃w1,w1=w.alloc (.cells #[.int .i64 0] 3):=⟨_,rfl⟩
 have HB1:=z_ (show Below w.heap.size w w1 from by rw [hw1];exact below_alloc (Below.refl _ _) _)
 have HG1:=z_ (show w1.heap[w.heap.size]? = some (.cells #[.int .i64 ((0:Nat):Int)] 3 (0,0)) from by rw [hw1];exact heap_alloc_new w _)
 go_enter Tryd.func68,Tryd.ntmps68
 go_wp2_with fail
 rw [<-hw1]
 clear hw1
 obtain ⟨g,hg⟩ : ∃g,g=w.heap.size:=⟨_,rfl⟩
 rw [<-hg] at HG1
 rw [<-hg]
 have HGE:=z_ hg
 clear hg
 cases t with
 | none=>
   refine (walk_none (HA.out.below HB1.out) root 0 HT.out.at_ _).mono ?_
   rintro e w2 ⟨rfl,hb⟩
   have hc:=blk_below HG1.out hb
   have HB2:=z_ (below_step HB1.out hb)
   clear hb
   have k0:w2.cell? ⟨g,0,none⟩=some (.int .i64 ((0:Nat):Int)):=blk_cell hc 0
   clear hc
   go_wp2_with fail
   go_ret
   exact ⟨rfl,HB2.out⟩
 | some t=>
   refine (walkD_calls (deep_see HA.out g (by rw [HGE.out];exact Nat.le_refl _)) HT.out.g.ok t root 0 0 (fun k=>k=g) w1 (by have h1:t.h<=2048:=HT.out.good.h_le;omega) HT.out.at_ ⟨HB1.out,HG1.out,rfl⟩).mono ?_
   rintro e w2 ⟨rfl,O,⟨hB,hc,hO⟩,hk,hgr⟩
   have HB2:=z_ hB
   obtain ⟨d,hd⟩ : ∃d,d=walkS (fun (d:Nat) (_:Nd) (a:Nat)=>max d a) 0 t 0:=⟨_,rfl⟩
   rw [<-hd] at hc
   have HD:=z_ (show ((heightO (some t):Nat):Int)=(d:Int) from by rw [hd,walkS_max];show ((t.h:Nat):Int)=_;omega)
   have k0:w2.cell? ⟨g,0,none⟩=some (.int .i64 (d:Int)):=blk_cell hc 0
   clear hB hc hO hk hgr hd
   go_wp2_with fail
   go_ret
   exact ⟨by rw [HD.out];rfl,HB2.out⟩
theorem ArenaM.start {w w1:World} {size room:Int} (hb : ¬newBad size room) (ha:ABlk w1 w.heap.size size room (.slice none 0 0) (.slice none 0 0)) (h1:Below w.heap.size w w1) (X:Nat->Prop) (hX : ∀k,X k->k<w1.heap.size/\k≠w.heap.size):
 ArenaM w1 w.heap.size w.heap.size size room (.slice none 0 0) (.slice none 0 0) X []:=by
 have hs:1<=size/\size<=32:=⟨by by_cases h:size<1;exact absurd (.inl h) hb;omega,by by_cases h:32<size;exact absurd (.inr (.inl h)) hb;omega⟩
 have hm:1<=room/\room<=4194304:=⟨by by_cases h:room<1;exact absurd (.inr (.inr (.inl h))) hb;omega,by by_cases h:4194304<room;exact absurd (.inr (.inr (.inr h))) hb;omega⟩
 refine ⟨⟨[],[],⟨ha,Kd.R_nil _ _ _ _ _,Kd.R_nil _ _ _ _ _,?_,FreeOk.nil,rfl,fun i o r h=>by simp at h,fun k hk=>⟨(hX k hk).1,?_⟩⟩⟩,Nat.le_refl _,hs,hm,by simp;omega⟩
 ·intro k hk h0
  exact absurd h0 (by simp)
 ·rintro (h|h|h)
  ·exact (hX k hk).2 h
  ·simp [Value.ownBlock] at h
  ·simp [Value.ownBlock] at h
theorem TreeIn.none (size:Int) {cs:Cs} {root:Int} (h:nodeAt cs root=none) (hg:CsG cs):TreeIn size cs root none:=⟨h,trivial,hg⟩
theorem nodeAt_nil (i:Int):nodeAt [] i=none:=by
 unfold nodeAt
 split<;>simp
theorem find_leaf {size:Int} {cs:Cs} {t:PT} {i:Int} (ht:IsT cs i t) (hg:Good size t) {x:Lf} (hx:x∈t.leaves) (hu : ∀y∈t.leaves,y.id=x.id->y=x):(findT (keyB x.id) x.id i t).item=⟨x.id,x.key,x.since,true⟩:=by
 have hid:=(hg.leaf_ok x hx).1
 obtain ⟨S,A,B,e1,e2,e3,e4,e5,e6,_⟩:=ins_down hid t i ht hg
 have hxs:x∈S.leaves:=by
  rw [e5] at hx
  rcases List.mem_append.1 hx with h|h
  ·rcases List.mem_append.1 h with h|h
   ·exact absurd rfl (e6 x (List.mem_append_left _ h))
   ·exact h
  ·exact absurd rfl (e6 x (List.mem_append_right _ h))
 rcases e4 with ⟨n,rfl,hs⟩|⟨n,l,r,rfl,hs,hb⟩
 ·obtain rfl:x=lfOf n:=by simpa [PT.leaves] using hxs
  have hn:(findT (keyB (lfOf n).id) (lfOf n).id i t).node=n:=e3.symm
  unfold Spot.item
  rw [hs,decide_eq_true (show n.f1=(lfOf n).id from rfl),hn]
  rfl
 ·exfalso
  obtain ⟨d,hd,hat⟩:=e2.fork_at
  obtain ⟨b,ha,_⟩:=hat x hxs
  rw [hd] at hb
  have:=(begins_at ha (keyB_bytes hid) (keyB_bytes hid)).2 (fun _ _=>rfl)
  rw [this] at hb
  cases hb
theorem first_in {size room:Int} (hs:1<=size/\size<=32) (hr:1<=room) {id key:List Int} {since:Int} (ho:BytesOk id) (hk:BytesOk key) (hb : ¬badIns id key since):
 ¬room-(usedN []:Int)<((findO (keyB id) id (-1) none).needs:Int)/\(insAll size (keyB id) id key since (findO (keyB id) id (-1) none) [])=([some (leafNd size id key since)],0):=by
 have hn:(findO (keyB id) id (-1) none).needs=1:=by
  show Spot.needs ⟨[],-1,z39,false⟩=1
  unfold Spot.needs
  rw [if_neg (fun h=>h.1 rfl)]
  rfl
 rw [hn]
 refine ⟨by show ¬room-((0:Nat):Int)<((1:Nat):Int);omega,?_⟩
 show insAll size (keyB id) id key since ⟨[],-1,z39,false⟩ []=_
 unfold insAll insStart
 rw [if_neg (fun h=>h.1 rfl)]
 rfl
theorem no_bad (cs:Cs) {id key:List Int} {since:Int} (h : ¬badIns id key since) : ¬(badRoot cs (-1)\/badIns id key since):=fun h1=>h1.elim (fun h2=>h2.1 rfl) h
theorem leaf_tree {size:Int} (hs:1<=size/\size<=32) {id key:List Int} {since:Int} (ho:BytesOk id) (hk:BytesOk key) (hb : ¬badIns id key since):TreeIn size [some (leafNd size id key since)] 0 (some (.leaf (leafNd size id key since))):=
 ⟨⟨rfl,rfl⟩,Good.leafOf (not_badIns hb ho hk),by
  unfold badIns at hb
  exact CsG.nil.put (leafNd_g hs id key since ho (by omega) (by omega))⟩
theorem lit_Cx {w:World} {g:Nat} {x:Int} {q:Nat×Nat} (h:w.heap[g]? = some (.cells #[.int .u8 x] 5 q)):Kd.C (Kd.int .u8) w (some ⟨g,0,none⟩) 1 [x]:=by
 refine Kd.C_of_reads (h1:=fun _=>rfl) (d:=0) ⟨rfl,by decide,fun _=>⟨_,rfl,fun j hj=>?_⟩⟩
 obtain rfl:j=0:=by omega
 simp [World.cell?,Addr.add,h]
theorem bytes1 (x:Int) (h:0<=x/\x<=255):BytesOk [x]:=fun y hy=>by obtain rfl:y=x:=(by simpa using hy);exact h
set_option maxHeartbeats 8000000 in
set_option maxRecDepth 100000 in
theorem awake10_calls (w:World) (hGS:GlobS w):Calls Tryd.prog 25 #[] w fun e w'=>e = .returned (.bool true)/\Below w.heap.size w w':=by
 have HGS:=z_ hGS
 have HNB:=z_ (show ¬newBad 4 9 from by unfold newBad;omega)
 have HBI:=z_ (show ¬badIns [97] [107] 1 from by unfold badIns;simp)
 clear hGS
 have kc:=fun (w:World) (C:Array Value) (n c:Nat)=>Lib.run_convert_bytes_const (P:=Tryd.prog) w 31 5 C n c Tryd.underlying31 Tryd.underlying5
 have kc2:=fun (W:World) (o:Obj) (C:Array Value) (n c:Nat)=>(by have h:=kc (W.alloc o) C n c;rw [World.size_alloc] at h;exact h:(convert 31 31 (.slice (some ⟨W.heap.size+1,0,none⟩) n c)).run Tryd.prog ((W.alloc o).alloc (.cells C 5)) = .ok (.slice (some ⟨W.heap.size+1,0,none⟩) n c) ((W.alloc o).alloc (.cells C 5 (C.size,C.size+1))))
 go_enter Tryd.func25,Tryd.ntmps25
 go_wp2_with fail
 refine (new_calls 4 9 w (by omega) (by omega) (by omega) (by omega)).mono ?_
 rintro e w1 ⟨rfl,hA,hb1⟩
 have HA:=z_ hA
 have HB1:=z_ hb1
 clear hA hb1
 obtain ⟨w2,hw2⟩ : ∃w2,w2=w1.alloc (.cells #[.int .u8 97] 5 (1,2)):=⟨_,rfl⟩
 have HB2:=z_ (show Below w1.heap.size w1 w2 from by rw [hw2];exact below_alloc (Below.refl _ _) _)
 have HZ2:=z_ (show w2.heap.size=w1.heap.size+1 from by rw [hw2];simp)
 have HI2:=z_ (show w2.heap[w1.heap.size]? = some (.cells #[.int .u8 97] 5 (1,2)) from by rw [hw2];exact heap_alloc_new w1 _)
 obtain ⟨w3,hw3⟩ : ∃w3,w3=w2.alloc (.cells #[.int .u8 107] 5 (1,2)):=⟨_,rfl⟩
 have HB3:=z_ (show Below w2.heap.size w2 w3 from by rw [hw3];exact below_alloc (Below.refl _ _) _)
 have HS2:=z_ (show w2.heap.size=w1.heap.size+1/\w3.heap.size=w2.heap.size+1 from ⟨HZ2.out,by rw [hw3];simp⟩)
 have HI3:=z_ (show w3.heap[w2.heap.size]? = some (.cells #[.int .u8 107] 5 (1,2)) from by rw [hw3];exact heap_alloc_new w2 _)
 have HV1:=z_ (show BX w3 (fun k=>w1.heap.size<=k/\k<w3.heap.size) (.slice (some ⟨w1.heap.size,0,none⟩) ([97]:List Int).length 1) [97] from Kd.V_mk (Nat.le_refl _) (fun W' hW'=>lit_Cx ((hW' w1.heap.size ⟨Nat.le_refl _,by have:=HS2.out;omega⟩ (by have:=HS2.out;omega)).trans (blk_below HI2.out HB3.out))))
 have HV2:=z_ (show BX w3 (fun k=>w1.heap.size<=k/\k<w3.heap.size) (.slice (some ⟨w2.heap.size,0,none⟩) ([107]:List Int).length 1) [107] from Kd.V_mk (Nat.le_refl _) (fun W' hW'=>lit_Cx ((hW' w2.heap.size ⟨by have:=HS2.out;omega,by have:=HS2.out;omega⟩ (by have:=HS2.out;omega)).trans HI3.out)))
 have HBW:=z_ (show Below w.heap.size w w3 from HB1.out.trans ((below_step HB2.out HB3.out).mono HB1.out.size))
 have HM3:=z_ (show ArenaM w3 w.heap.size w.heap.size 4 9 (.slice none 0 0) (.slice none 0 0) (fun k=>w1.heap.size<=k/\k<w3.heap.size) [] from ArenaM.start HNB.out (HA.out.below (below_step HB2.out HB3.out)) HBW.out _ (fun k hk=>⟨hk.2,by have:=HA.out.lt;omega⟩))
 have HP3:=z_ (show InsPre w3 w.heap.size w.heap.size 4 9 (.slice none 0 0) (.slice none 0 0) (fun k=>w1.heap.size<=k/\k<w3.heap.size) [] (some ⟨w1.heap.size,0,none⟩) (some ⟨w2.heap.size,0,none⟩) 1 1 [97] [107] from
  ⟨HM3.out,CsOk.nil,(fun n h=>by cases h),HV1.out,HV2.out,bytes1 97 (by omega),bytes1 107 (by omega),by decide,by decide,fun W hW=>GlobS.of HGS.out (HBW.out.trans hW)⟩)
 have HEQ:=z_ (And.intro hw2 hw3)
 clear hw2 hw3
 go_wp2_with fail
 rw [<-HEQ.out.1,<-HEQ.out.2,show w1.heap.size+1=w2.heap.size from HS2.out.1.symm]
 clear HEQ
 refine (insert_calls HP3.out (-1) 1 none (TreeIn.none 4 (nodeAt_nil _) CsG.nil)).mono ?_
 rintro e w4 ⟨i,er,cs',hout,rfl,hA4⟩
 obtain ⟨lf,hlf⟩ : ∃lf,lf=leafNd 4 [97] [107] 1:=⟨_,rfl⟩
 have hfi:=first_in (size:=4) (room:=9) (by omega) (by omega) (bytes1 97 (by omega)) (bytes1 107 (by omega)) HBI.out
 rw [<-hlf] at hfi
 obtain ⟨rfl,rfl,rfl⟩:i=0/\er=0/\cs' = [some lf]:=by
  rcases hout with ⟨h1,_⟩|⟨_,h1,_⟩|⟨_,_,h1,h2,h3⟩
  ·exact absurd h1 (no_bad _ HBI.out)
  ·exact absurd h1 hfi.1
  ·rw [hfi.2] at h1 h3
   exact ⟨h1,h2,h3⟩
 obtain ⟨vc',vf',X',hM,_,_,_,hb4⟩:=hA4
 have HM4:=z_ hM
 have HT4:=z_ (show TreeIn 4 [some lf] 0 (some (.leaf lf)) from by rw [hlf];exact leaf_tree (by omega) (bytes1 97 (by omega)) (bytes1 107 (by omega)) HBI.out)
 have HB4:=z_ (HBW.out.trans hb4)
 have HIT:=z_ (show (findO (keyB [97]) [97] 0 (some (.leaf lf))).item=⟨[97],[107],1,true⟩ from find_leaf (x:=⟨[97],[107],1⟩) HT4.out.at_ HT4.out.good (by rw [hlf];exact List.mem_singleton.2 rfl) (fun y hy _=>by rw [hlf] at hy;exact List.mem_singleton.1 hy))
 clear hout hM hb4 hfi hlf
 obtain ⟨w5,hw5⟩ : ∃w5,w5=w4.alloc (.cells #[.int .u8 97] 5 (1,2)):=⟨_,rfl⟩
 have HB5:=z_ (show Below w4.heap.size w4 w5 from by rw [hw5];exact below_alloc (Below.refl _ _) _)
 have HC5:=z_ (show Kd.C (Kd.int .u8) w5 (some ⟨w4.heap.size,0,none⟩) ([97]:List Int).length [97] from lit_Cx (show w5.heap[w4.heap.size]? = some (.cells #[.int .u8 97] 5 (1,2)) from by rw [hw5];exact heap_alloc_new w4 _))
 have HEQ:=z_ hw5
 clear hw5
 go_wp2_with fail
 rw [<-HEQ.out]
 clear HEQ
 refine (get_calls (HM4.out.below HB5.out) 0 (some (.leaf lf)) HT4.out (some ⟨w4.heap.size,0,none⟩) 1 [97] HC5.out (by decide) (bytes1 97 (by omega))).mono ?_
 rintro e w6 ⟨hI,hb⟩
 rw [HIT.out] at hI
 obtain ⟨A1,A2,c1,c2,rfl,x1,x2⟩:=hI
 have HX6:=z_ x2
 have HB6:=z_ (below_step HB5.out hb)
 clear x1 x2 hb
 have v1:=Kd.C_string (P:=Tryd.prog) (A:=A2) (c:=c2) Tryd.underlying31 Tryd.underlying5 Tryd.underlying9 (Kd.C_below (Kd.V_reads' HX6.out).2.2 (below_alloc (Below.refl w6.heap.size w6) (.cells #[.slice A1 ([97]:List Int).length c1,.slice A2 ([107]:List Int).length c2,.int .i64 1] 51)))
 simp only [List.length_cons,List.length_nil,Nat.zero_add] at v1
 have hso:(strOfNums [107]).toList=(⟨#[107]⟩:ByteArray).toList:=by
  rw [ByteArray.toList_eq,ByteArray.toList_eq,strOfNums_data]
  rfl
 have hse:((strOfNums [107]).toList==(⟨#[107]⟩:ByteArray).toList)=true:=by rw [hso];simp
 have hse3:((strOfNums [107]).toList=(⟨#[107]⟩:ByteArray).toList)=True:=eq_true hso
 go_wp2_with fail
 clear v1 hso hse hse3 kc kc2
 refine (deep_calls (HM4.out.below (below_alloc HB6.out _)) 0 (some (.leaf lf)) HT4.out).mono ?_
 rintro e w8 ⟨rfl,hb⟩
 have HB8:=z_ (HB4.out.trans ((below_step (below_alloc HB6.out _) hb).mono HB4.out.size))
 clear hb
 rw [show ((heightO (some (.leaf lf)):Nat):Int)=0 from rfl]
 go_wp2_with fail
 go_ret
 exact ⟨rfl,HB8.out⟩
theorem since_ok (y:Int):0<=wrap64 ((IntKind.u64.wrap y).tmod 200):=by
 have h:0<=IntKind.u64.wrap y:=by
  have:IntKind.u64.wrap y=y%18446744073709551616:=by simp [IntKind.wrap,IntKind.bits,IntKind.signed]
  omega
 have h1:=Int.tmod_nonneg 200 h
 have h2:=Int.tmod_lt_of_pos (IntKind.u64.wrap y) (show (0:Int)<200 by decide)
 rw [wrap64_id _ (by omega)]
 exact h1
theorem V_of_C59 {w:World} {A:Option Addr} {c:Nat} {l:List S59} (h:Kd.C k59 w A l.length l) (hc:l.length<=c):Kd.V k59 59 w w.heap.size (fun k=>k<w.heap.size) (.slice A l.length c) l:=Kd.V_mk hc (fun W' hW=>by
 have hsz:w.heap.size<=W'.heap.size:=by
  rcases Nat.eq_zero_or_pos w.heap.size with h0|h0
  ·omega
  ·have:=heap_lt (hW (w.heap.size-1) (by omega) (by omega)) (by omega)
   omega
 have hb:Below w.heap.size w { W' with os:=w.os,tape:=w.tape,output:=w.output }:=⟨rfl,rfl,rfl,hsz,fun k hk=>hW k hk hk⟩
 have hx:=Kd.C_below h hb
 exact hx)
def ItB' (w:World) (g:Nat) (r:List Value):Prop:=w.heap[g]? = some (.cells r.toArray 59 (0,0))
theorem ItB'.cells {w:World} {g:Nat} {y0 y1 y2:Value} (h:ItB' w g [y0,y1,y2]):w.cell? ⟨g,0,none⟩=some y0/\w.cell? ⟨g,1,none⟩=some y1/\w.cell? ⟨g,2,none⟩=some y2:=
 ⟨blk_cell h 0,blk_cell h 1,blk_cell h 2⟩
theorem PT.h_lt : ∀t:PT,t.h<t.leaves.length
 | .leaf n=>by simp [PT.h,PT.leaves]
 | .fork n l r=>by
   have h1:=PT.h_lt l
   have h2:=PT.h_lt r
   show max l.h r.h+1<(l.leaves++r.leaves).length
   rw [List.length_append]
   omega
theorem heightO_le (t:Option PT):heightO t<=(leavesO t).length:=by
 cases t with
 | none=>exact Nat.zero_le _
 | some t=>exact Nat.le_of_lt (PT.h_lt t)
theorem needs_few {size:Int} {cs:Cs} {root:Int} {t:Option PT} (h:TreeIn size cs root t) (id:List Int):(findO (keyB id) id root t).needs<=(leavesO t).length+2:=by
 have h1:=heightO_le t
 have h2:=(way_o cs (keyB id) id root t h.at_).2.2.1
 unfold Spot.needs
 split<;>omega
theorem order_step {cs cs':Cs} {root i er since:Int} {t:Option PT} {id key:List Int} {j:Nat} (ht:TreeIn 8 cs root t) (o1:BytesOk id) (l1:id.length<=30) (o2:BytesOk key) (l2:key.length<=100) (hs:0<=since) (hu:usedN cs<=40*j) (hj:j<=60) (hlv:(leavesO t).length<=30) (hr:t=none->root = -1) (h:InsOut cs 8 65536 root id key since t i er cs'):
 er=0/\∃t',TreeIn 8 cs' i (some t')/\Ext cs cs'/\usedN cs'<=40*(j+1)/\∀y,y∈t'.leaves↔y=⟨id,key,since⟩\/(y∈leavesO t/\y.id≠id):=by
 have hb : ¬badIns id key since:=by unfold badIns;omega
 have hn:=needs_few ht id
 have hf : ¬(65536:Int)-(usedN cs:Int)<((findO (keyB id) id root t).needs:Int):=by omega
 have hr2 : ¬badRoot cs root:=by
  rintro ⟨h1,h2⟩
  cases t with
  | none=>exact h1 (hr rfl)
  | some t=>
    obtain ⟨n,hn⟩:=ht.root.2
    rw [hn] at h2
    cases h2
 rcases h with ⟨h1,_⟩|⟨_,h1,_⟩|⟨_,_,rfl,rfl,rfl⟩
 ·exact absurd h1 (fun h=>h.elim hr2 hb)
 ·exact absurd h1 hf
 ·obtain ⟨t',k1,k2,k3,A,S,B,N,e1,e2,e3,e4⟩:=ht.insert (room:=65536) (by omega) o1 o2 hb hf
  refine ⟨rfl,t',k1,k2,by rw [k3];omega,fun y=>?_⟩
  have h3 : ∀y,y∈A\/y∈B->y.id≠id:=fun y hy=>e3 y (List.mem_append.2 hy)
  rw [e1,e2]
  simp only [List.mem_append]
  rcases e4 with ⟨s1,rfl⟩|⟨s1,rfl|rfl⟩
  ·simp only [List.mem_singleton]
   constructor
   ·rintro ((h|h)|h)
    ·exact .inr ⟨.inl (.inl h),h3 y (.inl h)⟩
    ·exact .inl h
    ·exact .inr ⟨.inr h,h3 y (.inr h)⟩
   ·rintro (h|⟨(h|h)|h,hi⟩)
    ·exact .inl (.inr h)
    ·exact .inl (.inl h)
    ·exact absurd (s1 y h) hi
    ·exact .inr h
  ·simp only [List.mem_cons]
   constructor
   ·rintro ((h|h|h)|h)
    ·exact .inr ⟨.inl (.inl h),h3 y (.inl h)⟩
    ·exact .inl h
    ·exact .inr ⟨.inl (.inr h),s1 y h⟩
    ·exact .inr ⟨.inr h,h3 y (.inr h)⟩
   ·rintro (h|⟨(h|h)|h,hi⟩)
    ·exact .inl (.inr (.inl h))
    ·exact .inl (.inl h)
    ·exact .inl (.inr (.inr h))
    ·exact .inr h
  ·simp only [List.mem_append,List.mem_singleton]
   constructor
   ·rintro ((h|h|h)|h)
    ·exact .inr ⟨.inl (.inl h),h3 y (.inl h)⟩
    ·exact .inr ⟨.inl (.inr h),s1 y h⟩
    ·exact .inl h
    ·exact .inr ⟨.inr h,h3 y (.inr h)⟩
   ·rintro (h|⟨(h|h)|h,hi⟩)
    ·exact .inl (.inr (.inr h))
    ·exact .inl (.inl h)
    ·exact .inl (.inr (.inl h))
    ·exact .inr h
abbrev PutS:=S59
def lfP (p:PutS):Lf:=⟨p.f0,p.f1,p.f2⟩
def idxP (pid:List Int):List PutS->Nat->Int
 | [],_=> -1
 | x :: r,k=>if pid=x.f0 then (k:Int) else idxP pid r (k+1)
theorem idxP_spec (pid:List Int) : ∀(l:List PutS) (k:Nat),(idxP pid l k = -1/\∀x∈l,x.f0≠pid)\/∃m,∃h:m<l.length,idxP pid l k=((k+m:Nat):Int)/\l[m].f0=pid
 | [],k=>.inl ⟨rfl,fun x hx=>by cases hx⟩
 | x :: r,k=>by
   unfold idxP
   by_cases hx:pid=x.f0
   ·rw [if_pos hx]
    exact .inr ⟨0,by simp,by simp,hx.symm⟩
   ·rw [if_neg hx]
    rcases idxP_spec pid r (k+1) with ⟨h1,h2⟩|⟨m,h1,h2,h3⟩
    ·refine .inl ⟨h1,fun y hy=>?_⟩
     rcases List.mem_cons.1 hy with rfl|hy
     ·exact fun e=>hx e.symm
     ·exact h2 y hy
    ·exact .inr ⟨m+1,by simpa using h1,by rw [h2];congr 1;omega,by simpa using h3⟩
structure LastOk (l:List PutS) (lv:List Lf):Prop where
 apart:l.Pairwise (fun x y=>x.f0≠y.f0)
 same : ∀y,y∈lv↔y∈l.map lfP
theorem lastOk_nil:LastOk [] []:=⟨List.Pairwise.nil,fun y=>by simp⟩
theorem LastOk.add {l:List PutS} {lv lv':List Lf} {p:PutS} (h:LastOk l lv) (hn : ∀x∈l,x.f0≠p.f0) (h' : ∀y,y∈lv'↔y=lfP p\/(y∈lv/\y.id≠p.f0)):LastOk (l++[p]) lv':=by
 refine ⟨?_,fun y=>?_⟩
 ·rw [List.pairwise_append]
  refine ⟨h.apart,by simp,fun x hx y hy=>?_⟩
  rw [List.mem_singleton] at hy
  rw [hy]
  exact hn x hx
 ·rw [h',h.same,List.map_append,List.mem_append,List.map_singleton,List.mem_singleton]
  constructor
  ·rintro (h|⟨h,_⟩)
   ·exact .inr h
   ·exact .inl h
  ·rintro (h|h)
   ·refine .inr ⟨h,?_⟩
    obtain ⟨x,hx,rfl⟩:=List.mem_map.1 h
    exact hn x hx
   ·exact .inl h
theorem LastOk.swap {l:List PutS} {lv lv':List Lf} {p:PutS} (h:LastOk l lv) (m:Nat) (hm:m<l.length) (hx:l[m].f0=p.f0) (h' : ∀y,y∈lv'↔y=lfP p\/(y∈lv/\y.id≠p.f0)):LastOk ((l.take m++l.drop (m+1))++[p]) lv':=by
 have hl:l=l.take m++l[m] :: l.drop (m+1):=by rw [<-List.drop_eq_getElem_cons hm,List.take_append_drop]
 have ha:=h.apart
 have hs:=h.same
 generalize l[m]=q at hl hx
 generalize l.take m=a at hl
 generalize l.drop (m+1)=b at hl
 subst hl
 rw [List.pairwise_append] at ha
 obtain ⟨a1,a2,a3⟩:=ha
 rw [List.pairwise_cons] at a2
 obtain ⟨a4,a5⟩:=a2
 have hn : ∀x∈a++b,x.f0≠p.f0:=fun x hx'=>by
  rcases List.mem_append.1 hx' with h1|h1
  ·rw [<-hx]
   exact a3 x h1 q (by simp)
  ·rw [<-hx]
   exact fun e=>a4 x h1 e.symm
 refine LastOk.add (lv:=lv.filter (fun y=>decide (y.id≠p.f0))) ⟨?_,fun y=>?_⟩ hn (fun y=>?_)
 ·rw [List.pairwise_append]
  exact ⟨a1,a5,fun x hx' y hy=>a3 x hx' y (List.mem_cons_of_mem _ hy)⟩
 ·rw [List.mem_filter,hs]
  simp only [List.map_append,List.map_cons,List.mem_append,List.mem_cons]
  constructor
  ·rintro ⟨h1|h1|h1,h2⟩
   ·exact .inl h1
   ·rw [h1] at h2
    exact absurd hx (of_decide_eq_true h2)
   ·exact .inr h1
  ·intro h1
   have h2:y.id≠p.f0:=by
    obtain ⟨x,hx',rfl⟩ : ∃x,x∈a++b/\lfP x=y:=by
     rcases h1 with h1|h1
     ·obtain ⟨x,h3,h4⟩:=List.mem_map.1 h1
      exact ⟨x,List.mem_append_left _ h3,h4⟩
     ·obtain ⟨x,h3,h4⟩:=List.mem_map.1 h1
      exact ⟨x,List.mem_append_right _ h3,h4⟩
    exact hn x hx'
   exact ⟨h1.elim .inl (fun h=>.inr (.inr h)),decide_eq_true h2⟩
 ·rw [h',List.mem_filter]
  constructor
  ·rintro (h1|⟨h1,h2⟩)
   ·exact .inl h1
   ·exact .inr ⟨⟨h1,decide_eq_true h2⟩,h2⟩
  ·rintro (h1|⟨⟨h1,_⟩,h2⟩)
   ·exact .inl h1
   ·exact .inr ⟨h1,h2⟩
def lastF (l:List PutS) (p:PutS):List PutS:=
 if idxP p.f0 l 0 = -1 then l++[p] else (l.take (idxP p.f0 l 0).toNat++l.drop ((idxP p.f0 l 0).toNat+1))++[p]
theorem LastOk.next {l:List PutS} {lv lv':List Lf} {p:PutS} (h:LastOk l lv) (h' : ∀y,y∈lv'↔y=lfP p\/(y∈lv/\y.id≠p.f0)):LastOk (lastF l p) lv':=by
 unfold lastF
 rcases idxP_spec p.f0 l 0 with ⟨h1,h2⟩|⟨m,h1,h2,h3⟩
 ·rw [if_pos h1]
  exact h.add h2 h'
 ·rw [h2,if_neg (by omega),Int.toNat_natCast,Nat.zero_add]
  exact h.swap m h1 h3 h'
theorem nodup_len {α:Type} : ∀(l m:List α),l.Pairwise (fun x y=>x≠y)->(∀x∈l,x∈m)->l.length<=m.length
 | [],m,_,_=>Nat.zero_le _
 | x :: l,m,h,hs=>by
   rw [List.pairwise_cons] at h
   obtain ⟨a,b,rfl⟩:=List.append_of_mem (hs x (by simp))
   have:=nodup_len l (a++b) h.2 (fun y hy=>by
    have h1:=hs y (List.mem_cons_of_mem _ hy)
    rcases List.mem_append.1 h1 with h2|h2
    ·exact List.mem_append_left _ h2
    ·rcases List.mem_cons.1 h2 with h3|h3
     ·exact absurd h3.symm (h.1 y hy)
     ·exact List.mem_append_right _ h3)
   simp only [List.length_append,List.length_cons] at this ⊢
   omega
theorem lessB_irrefl {a b:List Int} (h:lessB a b):a≠b:=by
 rintro rfl
 obtain ⟨m,_,_,_,h1,h2⟩:=h
 omega
theorem leavesO_apart {size:Int} {t:Option PT} (h:GoodO size t):(leavesO t).Pairwise (fun x y=>x≠y):=by
 cases t with
 | none=>exact List.Pairwise.nil
 | some t=>exact List.Pairwise.imp (fun {a b} hl e=>lessB_irrefl hl (congrArg (fun x:Lf=>keyB x.id) e)) (leaf_order h)
theorem LastOk.len {l:List PutS} {size:Int} {t:Option PT} (h:LastOk l (leavesO t)) (hg:GoodO size t):(leavesO t).length=l.length:=by
 have h1:=nodup_len (leavesO t) (l.map lfP) (leavesO_apart hg) (fun x hx=>(h.same x).1 hx)
 have h2:=nodup_len (l.map lfP) (leavesO t) (by
  rw [List.pairwise_map]
  exact h.apart.imp (fun hn e=>hn (congrArg Lf.id e))) (fun x hx=>(h.same x).2 hx)
 rw [List.length_map] at h1 h2
 omega
theorem order_same {l:List PutS} {t u:Option PT} (ht:GoodO 8 t) (hu:GoodO 8 u) (h1:LastOk l (leavesO t)) (h2 : ∀y,y∈leavesO u↔y∈l.map lfP):leavesO u=leavesO t/\((t=none/\u=none)\/∃a b,t=some a/\u=some b/\a.node.f9=b.node.f9):=by
 have h : ∀x,x∈leavesO t↔x∈leavesO u:=fun x=>(h1.same x).trans (h2 x).symm
 cases t with
 | none=>
   cases u with
   | none=>exact ⟨rfl,.inl ⟨rfl,rfl⟩⟩
   | some u=>
     obtain ⟨x,hx⟩:=u.leaves_ne
     cases (h x).2 hx
 | some t=>
   cases u with
   | none=>
     obtain ⟨x,hx⟩:=t.leaves_ne
     cases (h x).1 hx
   | some u=>
     obtain ⟨e1,e2,_⟩:=good_same ht hu h
     exact ⟨e1.symm,.inr ⟨t,u,rfl,rfl,e2⟩⟩
theorem order_items {size:Int} {t:Option PT} (ht:GoodO size t) (i:Nat) (hi:1<=i) (hl:i<(leavesO t).length):
 IdOk ((leavesO t)[i-1]'(by omega)).id/\IdOk ((leavesO t)[i]'hl).id/\lessB (keyB ((leavesO t)[i-1]'(by omega)).id) (keyB ((leavesO t)[i]'hl).id):=by
 cases t with
 | none=>exact absurd hl (Nat.not_lt_zero _)
 | some t=>exact ⟨(Good.leaf_ok ht _ (List.getElem_mem _)).1,(Good.leaf_ok ht _ (List.getElem_mem _)).1,List.pairwise_iff_getElem.1 (leaf_order ht) (i-1) i (Nat.lt_of_le_of_lt (Nat.sub_le i 1) hl) hl (by omega)⟩
end Go.Proofs.YtdeneoknjeegbaaDoor.P
end
section
namespace Go.Proofs.YtdeneoknjeegbaaDoor.P
open Go Go.RowKit Go.Shelf YtdeneoknjeegbaaDoor.Pure YtdeneoknjeegbaaDoorW.PrintWords YtdeneoknjeegbaaDoorW.PrintLast YtdeneoknjeegbaaDoorW.PrintMore
set_option maxRecDepth 100000 in
theorem orderid_calls {W:World} {g:Nat} {Z:Nat->Prop} {pid:List Int} (h:PidAt W g Z pid) (A1:Option Addr) (c1:Nat) (id:List Int) (h1:Kd.C (Kd.int .u8) W A1 id.length id) (hc1:id.length<=c1) (o1:BytesOk id) (y2 y3:Value):
 Calls Tryd.prog 28 #[.agg #[.slice A1 id.length c1,y2,y3],.pointer (some ⟨g,0,none⟩)] W fun e W'=>e = .returned (.bool (decide (pid=id)))/\Below W.heap.size W W':=by
 have HEQ:=z_ (show bytes_Equal.f pid id=some (decide (pid=id)) from by unfold bytes_Equal.f;rw [strNum_eq h.ok o1])
 obtain ⟨A,c,y1,s,hg,hp⟩:=h.mem
 obtain ⟨w1,hw1⟩ : ∃w1,w1=W.alloc (.cells #[.slice A1 id.length c1,y2,y3] 59):=⟨_,rfl⟩
 have HB1:=z_ (show Below W.heap.size W w1 from by rw [hw1];exact below_alloc (Below.refl _ _) _)
 have HN1:=z_ (show w1.heap[W.heap.size]? = some (.cells #[.slice A1 id.length c1,y2,y3] 59 (0,0)) from by rw [hw1];exact heap_alloc_new W _)
 have HG1:=z_ (blk_below hg HB1.out)
 have HC:=z_ (And.intro (Kd.C_below h1 HB1.out) (And.intro hc1 (Kd.V_below hp HB1.out)))
 clear h hg hp h1 hc1 o1
 have k0:(W.alloc (.cells #[.slice A1 id.length c1,y2,y3] 59)).cell? ⟨g,0,none⟩=some (.slice A pid.length c):=by rw [<-hw1];exact blk_cell HG1.out 0
 go_enter Tryd.func28,Tryd.ntmps28
 go_wp2_with fail
 rw [<-hw1]
 clear hw1 k0
 refine (bytes_Equal.calls A c pid A1 c1 id _ w1 (Kd.V_reads' HC.out.2.2).2.2 (Kd.V_reads' HC.out.2.2).2.1 HC.out.1 HC.out.2.1 HEQ.out).mono ?_
 rintro e w2 ⟨rfl,hb⟩
 have HB2:=z_ (below_step HB1.out hb.below)
 clear hb
 go_wp2_with fail
 go_ret
 exact ⟨rfl,HB2.out⟩
set_option maxHeartbeats 2000000 in
set_option maxRecDepth 100000 in
theorem index_puts {w:World} {g:Nat} {Z:Nat->Prop} {pid:List Int} (h:PidAt w g Z pid) (A0:Option Addr) (c0:Nat) (l0:List S59) (hr0:Kd.C k59 w A0 l0.length l0) (hl : ∀x∈l0,BytesOk x.f0):
 Calls Tryd.prog 27 #[.slice A0 l0.length c0,.func (.func 28) #[] #[.pointer (some ⟨g,0,none⟩)]] w fun e w'=>e = .returned (.int .i64 (idxP pid l0 0))/\Below w.heap.size w w':=by
 have HR:=z_ hr0
 have HP:=z_ (And.intro h hl)
 have HLN:=z_ (show (l0.length:Int)<=9223372036854775807 from by have:=Kd.C_max hr0;omega)
 clear hr0 h hl
 go_enter Tryd.func27,Tryd.ntmps27
 go_wp2_with fail
 go_loopg [8] (l0.length+1) (fun kq v8 wr=>∃k:Nat,k<=l0.length/\v8 = .int .i64 (k:Int)/\Aside0 (kq+k=l0.length+1)/\Aside0 (Below w.heap.size w wr/\idxP pid l0 0=idxP pid (l0.drop k) k))
 case atStart=>exact ⟨0,by omega,rfl,⟨rfl⟩,⟨Below.refl _ _,by rw [List.drop_zero]⟩⟩
 case round=>
  obtain ⟨k,hk,rfl,HK,HA⟩:=hrel
  obtain ⟨k1,rfl⟩ : ∃k1,gk=k1+1:=⟨gk-1,by have:=HK.out;omega⟩
  by_cases hlt:k<l0.length
  ·have hd:decide ((k:Int)<(l0.length:Int))=true:=by simp;omega
   have hd2:decide (0<=(k:Int))=true:=by simp
   have hRw:=Kd.C_below HR.out HA.out.1
   obtain ⟨ad,A1,c1,A2,c2,rfl,x0,x1,x2,l1,i1,l2,i2⟩:=at_T59 hRw (k:Int) (by omega) (by omega)
   rw [Int.toNat_natCast] at x0 x1 x2
   have hdr:l0.drop k=rd_T59 l0 k :: l0.drop (k+1):=by
    rw [List.drop_eq_getElem_cons hlt]
    unfold rd_T59
    rw [List.getD_eq_getElem?_getD,Int.toNat_natCast,List.getElem?_eq_getElem hlt]
    rfl
   have HDR:=z_ hdr
   have ho:BytesOk (rd_T59 l0 k).f0:=HP.out.2 _ (List.mem_of_mem_drop (hdr▸List.mem_cons_self ..))
   have HE:=z_ (And.intro i1 (And.intro l1 ho))
   clear hdr hRw i1 i2 l1 l2 ho
   obtain ⟨b,hb⟩ : ∃b,b=decide (pid=(rd_T59 l0 k).f0):=⟨_,rfl⟩
   have HQ:=z_ hb
   clear hb
   cases b with
   | true=>
     go_wp2_with fail
     refine (orderid_calls (HP.out.1.below HA.out.1) A1 c1 _ HE.out.1 HE.out.2.1 HE.out.2.2 _ _).mono ?_
     rintro e1 w1 ⟨rfl,hb1⟩
     rw [<-HQ.out]
     have HB1:=z_ (below_step HA.out.1 hb1)
     clear hb1
     go_wp2_with fail
     go_ret
     refine ⟨?_,HB1.out⟩
     rw [HA.out.2,HDR.out]
     show _=Ending.returned (.int .i64 (if _ then _ else _))
     rw [if_pos (of_decide_eq_true HQ.out.symm)]
     rfl
   | false=>
     go_wp2_with fail
     refine (orderid_calls (HP.out.1.below HA.out.1) A1 c1 _ HE.out.1 HE.out.2.1 HE.out.2.2 _ _).mono ?_
     rintro e1 w1 ⟨rfl,hb1⟩
     rw [<-HQ.out]
     have HB1:=z_ (below_step HA.out.1 hb1)
     clear hb1 x0 x1 x2
     go_wp2_with fail
     have hn:idxP pid l0 0=idxP pid (l0.drop (k+1)) (k+1):=by
      rw [HA.out.2,HDR.out]
      show (if _ then _ else _)=_
      rw [if_neg (of_decide_eq_false HQ.out.symm)]
     have hw:wrap64 ((k:Int)+1)=((k+1:Nat):Int):=by rw [wrap64_id _ (by have:=HLN.out;omega)];omega
     have hk2:=HK.out
     go_roundg k1
     case measure=>omega
     case rel=>exact ⟨k+1,by omega,by first|rw [hw]|(simp;omega),⟨by omega⟩,⟨HB1.out,hn⟩⟩
  ·obtain rfl:k=l0.length:=by omega
   have hd:decide ((l0.length:Int)<(l0.length:Int))=false:=by simp
   go_wp2_with fail
   go_ret
   exact ⟨by rw [HA.out.2,List.drop_length];rfl,HA.out.1⟩
theorem zero_puts : ∀w,(zeroValue 59).run Tryd.prog w = .ok (.agg #[.slice none 0 0,.slice none 0 0,.int .i64 0]) w:=fun w=>by kernel_rfl
theorem run_clear_puts (w:World) (ty:TypeId) (g o n c:Nat) (hn:0<n) (cur:Array Value) (hg:w.heap[g]? = some (.cells cur 59 (0,0))) (hs:o+n*3<=cur.size):
 ∃vs:List Value,vs.length=n*3/\(Builtin.clear_ #[57] ty #[.slice (some ⟨g,o,none⟩) n c]).run Tryd.prog w = .ok (.tuple #[]) (w.setCells g o vs):=by
 refine ⟨(Builtin.zeroCells (Value.agg #[.slice none 0 0,.slice none 0 0,.int .i64 0]).cells n).toList,by simp [Builtin.zeroCells,Value.cells],?_⟩
 obtain ⟨vs,hvs⟩ : ∃vs,vs=(Builtin.zeroCells (Value.agg #[.slice none 0 0,.slice none 0 0,.int .i64 0]).cells n).toList:=⟨_,rfl⟩
 have hlen:vs.length=n*3:=by rw [hvs];simp [Builtin.zeroCells,Value.cells]
 have hone : ∀v∈vs,v.oneCell'=true:=by
  intro v hv
  rw [hvs] at hv
  simp only [Builtin.zeroCells,Value.cells,Array.toList_map,List.mem_map] at hv
  obtain ⟨i,_,rfl⟩:=hv
  have h3:i%3=0\/i%3=1\/i%3=2:=by omega
  show (#[Value.slice none 0 0,.slice none 0 0,.int .i64 0][i%3]!).oneCell'=true
  rcases h3 with h|h|h<;>rw [h]<;>rfl
 rw [<-hvs]
 have hst:=run_storeCells_cells (P:=Tryd.prog) g o vs 0 w (fun j hj=>by
  rw [blk_cell hg]
  simp only [Nat.add_zero,Array.getElem?_eq_getElem (show o+j<cur.size by omega),Option.isSome_some]) (fun j hj=>blk_frozen hg _) hone
 simp only [Nat.add_zero] at hst
 obtain ⟨m,rfl⟩ : ∃m,n=m+1:=⟨n-1,by omega⟩
 simp [Builtin.clear_,run_underlying Tryd.underlying57,zero_puts,<-hvs,hst]
theorem N_capmax {α:Type} {d:Kd α} {e:Nat} {W:World} {base:Nat} {ok:Nat->Prop} {g n c:Nat} {xs:List α} (h:Kd.N d e W base ok (.slice (some ⟨g,0,none⟩) n c) xs):n<=c/\c<=9223372036854775807:=by
 obtain ⟨h0,rows,hl,⟨h1,inner,⟨ho1,ho2|⟨g',cap,cur,hv,hb,hg,h3,h4,h5,h6⟩⟩,hr⟩,hf⟩:=h
 ·cases ho2.1
 ·injection hv with e1 e2 e3
  injection e1 with e1
  injection e1 with e1
  subst e1 e3
  exact ⟨by rw [e2];exact h3,h4⟩
set_option maxHeartbeats 4000000 in
set_option maxRecDepth 100000 in
theorem delete_puts {w:World} {base:Nat} {ok:Nat->Prop} {g n c0 m m1:Nat} {l0:List S59} (hN:Kd.N k59 59 w base ok (.slice (some ⟨g,0,none⟩) n c0) l0) (hn:n=l0.length) (hm:m<n) (hm1:m1=m+1) (hbs:base<=w.heap.size):
 Calls Tryd.prog 30 #[.slice (some ⟨g,0,none⟩) n c0,.int .i64 (m:Int),.int .i64 (m1:Int)] w fun e w'=>
  e = .returned (.slice (some ⟨g,0,none⟩) (n-1) c0)/\Kd.N k59 59 w' base ok (.slice (some ⟨g,0,none⟩) (n-1) c0) (l0.eraseIdx m)/\Kept w w' (fun k=>k=g)/\Below base w w':=by
 have HN:=z_ (Kd.N_drew hN)
 have HBS:=z_ hbs
 have HM:=z_ (And.intro hm (And.intro hm1 hn))
 obtain ⟨hnc,hcm⟩:=N_capmax hN
 have HC:=z_ (And.intro hnc hcm)
 have q0:decide (0<=(m:Int))=true:=by simp
 have q1:decide ((m:Int)<=(m1:Int))=true:=by simp;omega
 have q2:decide ((m1:Int)<=(n:Int))=true:=by simp;omega
 have q3:decide ((n:Int)<=(c0:Int))=true:=by simp;omega
 have q4:decide ((m:Int)<=(c0:Int))=true:=by simp;omega
 have q5:decide ((m1:Int)<=(c0:Int))=true:=by simp;omega
 have q6:decide ((m:Int)<=(n:Int))=true:=by simp;omega
 have q7:((m:Int)==(m1:Int))=false:=by simp;omega
 have q8:decide (0<=(m1:Int))=true:=by simp
 have p1:m<=c0:=by omega
 have p2:m1<=c0:=by omega
 have p3:m<=m1:=by omega
 have p4:m1<=n:=by omega
 have p5:n<=c0:=by omega
 have p6:m<=n:=by omega
 have r1 : ¬n=m:=by omega
 have r2 : ¬c0=m:=by omega
 obtain ⟨A,hA⟩ : ∃A,A=if c0=m1 then some (⟨g,0,none⟩:Addr) else some ⟨g,m1*3,none⟩:=⟨_,rfl⟩
 have HA:=z_ (show A=if c0=m+1 then some (⟨g,0,none⟩:Addr) else (some (⟨g,0,none⟩:Addr)).map (·.add ((m+1)*3)) from by
  rw [hA,hm1]
  split
  ·rfl
  ·show _=some (Addr.add ⟨g,0,none⟩ ((m+1)*3))
   rw [Addr.add_lit,Nat.zero_add])
 replace hA:=hA.symm
 clear hN hbs hm hm1 hn hnc hcm
 go_enter Tryd.func30,Tryd.ntmps30
 go_wp2_with fail
 go_region_law_o ((refine Kd.N_delete_step k59 (w0:=w) base (by rfl) (.tmp 22) (.tmp 25) 57 59 rfl Tryd.underlying57 (by kernel_rfl) (g:=g) (n:=n) (c:=c0) (k:=m) (m:=n-m1) (c2:=c0-m1) (A:=A) (by rfl) (by rfl) HA.out (by rw [HM.out.2.1]) HN.out HM.out.1 (below_drew (Below.refl base w)) HBS.out ?_;intro w1 hO hB hG))
 have HO:=z_ hO
 have HB:=z_ (And.intro hB hG)
 obtain ⟨cur0,hcur,hsz,_⟩:=N_cells hO
 obtain ⟨n1,hn1⟩ : ∃n1,n1=n-1:=⟨_,rfl⟩
 have hle:(l0.eraseIdx m).length=n1:=by rw [List.length_eraseIdx,if_pos (by rw [<-HM.out.2.2];exact HM.out.1),<-HM.out.2.2,hn1]
 rw [<-hn1] at HO
 rw [<-hn1]
 have HN1:=z_ (And.intro hn1 hle)
 have s1:n1<=c0:=by omega
 have s2:n1<=n:=by omega
 have s3:decide ((n1:Int)<=(n:Int))=true:=by simp;omega
 have s4:decide (0<=(n1:Int))=true:=by simp
 have s5:decide ((n1:Int)<=(c0:Int))=true:=by simp;omega
 have s6 : ¬c0=n1:=by have:=HM.out.1;omega
 obtain ⟨vs,hvl,hclr⟩:=run_clear_puts w1 0 g (n1*3) (n-n1) (c0-n1) (by have:=HM.out.1;omega) cur0 hcur (by have:cur0.size=c0*3:=hsz;have:=HM.out.1;omega)
 obtain ⟨w4,hw4⟩ : ∃w4,w4=w1.setCells g (n1*3) vs:=⟨_,rfl⟩
 rw [<-hw4] at hclr
 have HW4:=z_ (And.intro hw4 hvl)
 clear hO hB hG hcur hsz hn1 hle hvl hw4
 go_wp2_with fail
 go_ret
 have hn:=N_clear HO.out (i:=n1) (Nat.le_of_eq HN1.out.2.symm) vs (by rw [HW4.out.2];show n1*3+(n-n1)*3<=c0*3;have:=HC.out.1;have:=HN1.out.1;omega)
 rw [List.take_of_length_le (Nat.le_of_eq HN1.out.2)] at hn
 rw [<-HN1.out.1]
 refine ⟨rfl,by rw [HW4.out.1];exact hn,?_,?_⟩
 ·rw [HW4.out.1]
  obtain ⟨z1,z2,z3,z4⟩:=setCells_same g vs (n1*3) w1
  refine ⟨Nat.le_trans HB.out.2.size (Nat.le_of_eq z4.symm),fun k hk ho=>(setCells_far vs _ k ho).trans ?_⟩
  exact HB.out.2.block k hk (fun he=>ho (Option.some.inj he))
 ·rw [HW4.out.1]
  obtain ⟨z1,z2,z3,z4⟩:=setCells_same g vs (n1*3) w1
  have hbg:=Kd.N_base HO.out g rfl
  exact HB.out.1.trans ⟨z1,z2,z3,Nat.le_of_eq z4.symm,fun k hk=>setCells_far vs _ k (by omega)⟩
theorem backward_puts (A:Option Addr) (n c:Nat) (w:World):
 Calls Tryd.prog 31 #[.slice A n c] w fun e w'=>e = .returned (.func (.func 69) #[] #[.pointer (some ⟨w.heap.size,0,none⟩)])/\w'=w.alloc (.cells #[.slice A n c] 57):=by
 go_enter Tryd.func31,Tryd.ntmps31
 go_wp2_with fail
 go_ret
 exact ⟨rfl,rfl⟩
theorem three {r:List Value} (h:r.length=3) : ∃y0 y1 y2,r = [y0,y1,y2]:=by
 match r,h with
 | [y0,y1,y2],_=>exact ⟨y0,y1,y2,rfl⟩
structure PutsAt (W:World) (B:Nat) (A:Option Addr) (c:Nat) (rows:List (List Value)):Prop where
 box:W.cell? ⟨B,0,none⟩=some (.slice A rows.length c)
 row : ∀(k:Nat),k<rows.length->(rows.getD k []).length=3/\∃g,A=some ⟨g,0,none⟩/\∀j u,(rows.getD k [])[j]? = some u->W.cell? ⟨g,k*3+j,none⟩=some u
attribute [local go_sem] Oper.semAt_some
set_option maxHeartbeats 4000000 in
set_option maxRecDepth 100000 in
theorem back_puts (n B:Nat) (A:Option Addr) (c:Nat) (rows:List (List Value)) (hn:1<=n) (hl:rows.length<=1000000):
 Gives Fence.wide n Tryd.prog 69 #[.pointer (some ⟨B,0,none⟩)] (fun x:Int×List Value=>#[.int .i64 x.1,.agg x.2.toArray]) (backs rows rows.length) (fun W=>PutsAt W B A c rows):=fun l J W hK hB hY h0=>by
 have HK:=z_ hK
 have HY:=z_ hY
 have HL:=z_ hl
 have HN:=z_ hn
 have hbx:=(hK _ _ h0).box
 have H0:=z_ h0
 have hw:wrap64 ((rows.length:Int)-1)=(rows.length:Int)-1:=wrap64_id _ (by omega)
 obtain ⟨m,hm⟩ : ∃m,m=rows.length:=⟨_,rfl⟩
 rw [<-hm] at hbx hw
 have HM:=z_ hm
 have hm1:m<=1000000:=by omega
 show CallsIn Fence.wide n Tryd.prog 69 #[.func (.yield l) #[] #[],.pointer (some ⟨B,0,none⟩)] W fun e W'=>(∃v,e = .returned v)/\J (backs rows rows.length) W'
 clear hK hY hl hn h0 hm hB
 refine callsIn_of_wp Tryd.func69 rfl trivial ?_ rfl
 simp only [Tryd.ntmps69,List.size_toArray,List.length_cons,List.length_nil,Nat.reduceAdd,Nat.reduceSub,Array.replicate_succ,Array.replicate_zero,List.push_toArray,List.append_toArray,List.nil_append,List.cons_append]
 gi_wp2
 gi_loopw [3] (fun i wr=>∃(k:Nat) (z:Int) (pre:List (Int×List Value)),i = .int .i64 z/\Aside0 (z=(k:Int)-1/\k<=m/\pre++backs rows k=backs rows rows.length)/\J pre wr) (fun i _=>(intOf i+1).toNat)
 case atStart=>exact ⟨m,_,[],rfl,⟨by omega,Nat.le_refl _,by rw [HM.out];rfl⟩,H0.out⟩
 case round=>
  obtain ⟨k,z,pre,rfl,HZ,hJ⟩:=hrel
  have HJ:=z_ hJ
  clear hJ
  cases k with
  | zero=>
    obtain rfl:z = -1:=by have:=HZ.out.1;omega
    gi_wp2
    go_end0
    exact ⟨⟨_,rfl⟩,by have:=HZ.out.2.2;rw [<-this];simpa [backs] using HJ.out⟩
  | succ k=>
    obtain rfl:z=(k:Int):=by have:=HZ.out.1;omega
    have hr:=HK.out pre wr HJ.out
    have hbx2:=hr.box
    rw [<-HM.out] at hbx2
    obtain ⟨h3,g,rfl,hcs⟩:=hr.row k (by have:=HZ.out.2.1;have:=HM.out;omega)
    obtain ⟨y0,y1,y2,hy⟩:=three h3
    obtain ⟨fn,tmps,assign,body,hyy,hR⟩:=HY.out pre ((k:Int),rows.getD k []) wr HJ.out (by rw [<-HZ.out.2.2];exact ⟨backs rows k,by simp [backs]⟩)
    rw [hy] at hcs hyy
    dsimp only at hyy
    have c0:=hcs 0 y0 rfl
    have c1:=hcs 1 y1 rfl
    have c2:=hcs 2 y2 rfl
    simp only [Nat.add_zero] at c0
    have q1:(k:Int)<(m:Int):=by have:=HZ.out.2.1;omega
    have q2:0<=(k:Int):=by omega
    have q3:wrap64 ((k:Int)-1)=(k:Int)-1:=wrap64_id _ (by omega)
    have HR:=z_ hR
    clear hR hr h3 hcs hy
    gi_wp2
    refine ⟨fun _=>HN.out,HR.out.mono ?_⟩
    rintro e W3 ⟨rfl,hJ3⟩
    have HJ3:=z_ hJ3
    clear hJ3
    gi_wp2
    go_roundw
    case rel=>exact ⟨k,_,_,rfl,⟨by omega,by have:=HZ.out.2.1;omega,by rw [<-HZ.out.2.2];simp [backs]⟩,HJ3.out⟩
    case measure=>simp only [intOf];omega
end Go.Proofs.YtdeneoknjeegbaaDoor.P
end
