/- Lemmas of this claim, part 9. -/
import Derived.Test.YtdeneoknjeegbaaGreatDoorPartPtreeLives8
import Derived.Test.YtdeneoknjeegbaaGreatDoorPartPtreeLives2
import Derived.WalkSpells
import Derived.Outline
import Derived.Shelf.Small.Bits
import Derived.Shelf.Slices.Reverse
import Derived.Shelf.Slices.Cells
import Derived.Shelf.Bytes.SlSearch0
import Derived.Shelf.Bytes.SlEqualAll
import Derived.Shelf.Bytes.Small
import Derived.Test.YtdeneoknjeegbaaGreatDoorProg
import Derived.Shelf.Spec.TrailingZeros
import Derived.Test.YtdeneoknjeegbaaGreatDoorPartPtreeLives6
set_option linter.unusedVariables false
set_option linter.unusedSimpArgs false
section
namespace Go.Proofs.YtdeneoknjeegbaaGreatDoor.P
open Go.RowKit YtdeneoknjeegbaaGreatDoor.Pure YtdeneoknjeegbaaGreatDoorW.PrintWords YtdeneoknjeegbaaGreatDoorW.PrintLast YtdeneoknjeegbaaGreatDoorW.PrintMore
def rfork_T3:Bool×List (List Nat×List Nat):=(true,[([],[]),([0],[0]),([1],[1]),([2],[2]),([],[]),([3,4],[3,4]),([5],[5]),([],[]),([7],[7]),([8],[8]),([9],[9]),([],[]),([10,11],[10,11]),([12],[12]),([],[]),([],[]),([14,6,0,1,2,3,4,5,6,14,15],[6,14]),([15,13,16,0,1,2,3,4,5,6,7,8,9,10,11,12,13,14,15,16],[13,15])])
def rfork_B3:List Nat:=[0,1,3,7,0,31,63,0,128,384,896,0,3968,8064,0,0,49279,131071]
theorem rfork_tab3:rtab .any (opsOf Tryz.f36 3)=rfork_T3:=by kernel_rfl
theorem rfork_bits3:waitsOk rfork_T3.2 rfork_B3=true:=by kernel_rfl
def rfork_T4:Bool×List (List Nat×List Nat):=(true,[([],[]),([],[]),([],[]),([1,2],[1,2]),([],[]),([4],[4]),([],[]),([6],[6]),([5,7],[5,7]),([],[]),([],[]),([0,3,8,9,10],[0,3,8,9,10]),([],[]),([12,11,3,0,1,2,3,4,5,6,7,8,9,10,11,12],[11,12])])
def rfork_B4:List Nat:=[0,0,0,6,0,16,0,64,240,0,0,2047,0,8191]
theorem rfork_tab4:rtab .any (opsOf Tryz.f36 4)=rfork_T4:=by kernel_rfl
theorem rfork_bits4:waitsOk rfork_T4.2 rfork_B4=true:=by kernel_rfl
def rfork_T5:Bool×List (List Nat×List Nat):=(true,[([],[]),([0],[0]),([1],[1]),([2],[2]),([],[]),([],[]),([],[]),([6],[6]),([],[]),([8],[8]),([],[]),([10],[10]),([3,4,5,7,9,11],[3,4,5,7,9,11]),([0,1,2,3,4,5,6,7,8,9,10,11,12],[]),([13,12,12,0,1,2,3,4,5,6,7,8,9,10,11,12],[12,13])])
def rfork_B5:List Nat:=[0,1,3,7,0,0,0,64,0,256,0,1024,4095,8191,16383]
theorem rfork_tab5:rtab .any (opsOf Tryz.f36 5)=rfork_T5:=by kernel_rfl
theorem rfork_bits5:waitsOk rfork_T5.2 rfork_B5=true:=by kernel_rfl
attribute [local go_sem] max2_int min2_int max_two min_two
def rforkNd (size depth:Int) (prefix_:List Int) (left right:Int) (nl nr:Nd):Nd:=⟨false,[],[],0,depth,firstB prefix_ depth,(if nl.f6<nr.f6 then nr.f6 else nl.f6),left,right,hashB size 2 [num8 depth,firstB prefix_ depth,num8 (if nl.f6<nr.f6 then nr.f6 else nl.f6),nl.f9,nr.f9]⟩
def rforkOf (size:Int) (cs:Cs) (depth:Int) (prefix_:List Int) (left right:Int):Nd:=match nodeAt cs left,nodeAt cs right with
 | some nl,some nr=>rforkNd size depth prefix_ left right nl nr
 | _,_=>z59
set_option maxHeartbeats 8000000 in
set_option maxRecDepth 100000 in
theorem rfork_calls {w:World} {base q:Nat} {size most:Int} {vl:Value} {X:Nat->Prop} {cs:Cs} (h:RefM w base q size most vl X cs) (A:Option Addr) (cc:Nat) (c0:List Int) (depth left right:Int) (hdep:depth<=9223372036854775807)
 (b0:BX w X (.slice A c0.length cc) c0) (o0:BytesOk c0) (hcs : ∀i n,nodeAt cs i=some n->NdLen n/\BytesOk n.f9):
 Calls Tryz.prog 36 #[.pointer (some ⟨q,0,none⟩),.int .i64 depth,.slice A c0.length cc,.int .i64 left,.int .i64 right] w
  fun e w'=>RPost (forkBad cs depth c0 left right) w w' base q size most vl X cs (rforkOf size cs depth c0 left right) e:=by
 have HM:=z_ h
 have HB0:=z_ b0
 have HBW:=z_ h.base_le
 obtain ⟨m8,hm8⟩ : ∃m,wrap64 (8*(c0.length:Int))=m:=⟨_,rfl⟩
 have HM8:=z_ (show m8<depth->8*(c0.length:Int)<depth\/65535<c0.length from fun hlt=>by
  by_cases hl:65535<c0.length
  ·exact .inr hl
  ·rw [wrap64_id _ (by omega)] at hm8
   exact .inl (by omega))
 have HM9:=z_ (show depth<=m8->c0.length<=65535->depth<=8*(c0.length:Int) from fun hlt hl=>by
  rw [wrap64_id _ (by omega)] at hm8
  omega)
 have HTL:=z_ (rthere_calls h left)
 have HTR:=z_ (rthere_calls h right)
 clear h b0
 by_cases h1:depth<0
 ·have hd1:=decide_eq_true h1
  have HC:=z_ (show forkBad cs depth c0 left right from .inl h1)
  clear h1 hm8
  go_enter Tryz.func36,Tryz.ntmps36
  go_wp2_with fail
  go_ret2
  exact ⟨fun _=>⟨rfl,RefP.of_below HM.out (Below.refl _ _)⟩,fun h=>absurd HC.out h,fun h=>absurd HC.out h⟩
 have hd1:=decide_eq_false h1
 by_cases h3:(c0.length:Int)>65535
 ·have hd3:=decide_eq_true h3
  have hd4:decide (65535<c0.length)=true:=decide_eq_true (by omega)
  have HC:=z_ (show forkBad cs depth c0 left right from .inr (.inr (.inl (by omega))))
  clear h1 h3
  go_enter Tryz.func36,Tryz.ntmps36
  go_wp2_with fail
  go_ret2
  exact ⟨fun _=>⟨rfl,RefP.of_below HM.out (Below.refl _ _)⟩,fun h=>absurd HC.out h,fun h=>absurd HC.out h⟩
 have hd3:=decide_eq_false h3
 have hd4:decide (65535<c0.length)=false:=decide_eq_false (by omega)
 by_cases h2:depth>m8
 ·have hd2:=decide_eq_true h2
  have HC:=z_ (show forkBad cs depth c0 left right from (HM8.out h2).elim (fun h=>.inr (.inl h)) (fun h=>.inr (.inr (.inl h))))
  clear h1 h2 h3
  go_enter Tryz.func36,Tryz.ntmps36
  go_wp2_with fail
  go_ret2
  exact ⟨fun _=>⟨rfl,RefP.of_below HM.out (Below.refl _ _)⟩,fun h=>absurd HC.out h,fun h=>absurd HC.out h⟩
 have hd2:=decide_eq_false h2
 have H65:=z_ (show c0.length<=65535 by omega)
 have H8:=z_ (HM9.out (by omega) (by omega))
 have H0D:=z_ h1
 clear h1 h2 h3
 cases hol:nodeAt cs left with
 | none=>
   replace HTL:=z_ (show Calls Tryz.prog 40 #[.pointer (some ⟨q,0,none⟩),.int .i64 left] w fun e w'=>e = .returned (.bool false)/\w=w' from by have:=HTL.out;rwa [hol] at this)
   have HC:=z_ (show forkBad cs depth c0 left right from .inr (.inr (.inr (.inl hol))))
   clear hol
   go_enter Tryz.func36,Tryz.ntmps36
   go_wp2_with fail
   refine HTL.out.mono ?_
   rintro e w' ⟨rfl,rfl⟩
   go_wp2_with fail
   go_ret2
   exact ⟨fun _=>⟨rfl,RefP.of_below HM.out (Below.refl _ _)⟩,fun h=>absurd HC.out h,fun h=>absurd HC.out h⟩
 | some nl=>
 replace HTL:=z_ (show Calls Tryz.prog 40 #[.pointer (some ⟨q,0,none⟩),.int .i64 left] w fun e w'=>e = .returned (.bool true)/\w=w' from by have:=HTL.out;rwa [hol] at this)
 cases hor:nodeAt cs right with
 | none=>
   replace HTR:=z_ (show Calls Tryz.prog 40 #[.pointer (some ⟨q,0,none⟩),.int .i64 right] w fun e w'=>e = .returned (.bool false)/\w=w' from by have:=HTR.out;rwa [hor] at this)
   have HC:=z_ (show forkBad cs depth c0 left right from .inr (.inr (.inr (.inr hor))))
   clear hol hor
   go_enter Tryz.func36,Tryz.ntmps36
   go_wp2_with fail
   refine HTL.out.mono ?_
   rintro e w' ⟨rfl,rfl⟩
   go_wp2_with fail
   refine HTR.out.mono ?_
   rintro e w' ⟨rfl,rfl⟩
   go_wp2_with fail
   go_ret2
   exact ⟨fun _=>⟨rfl,RefP.of_below HM.out (Below.refl _ _)⟩,fun h=>absurd HC.out h,fun h=>absurd HC.out h⟩
 | some nr=>
 replace HTR:=z_ (show Calls Tryz.prog 40 #[.pointer (some ⟨q,0,none⟩),.int .i64 right] w fun e w'=>e = .returned (.bool true)/\w=w' from by have:=HTR.out;rwa [hor] at this)
 have HC:=z_ (show ¬forkBad cs depth c0 left right from fun hb=>by
  rcases hb with hb|hb|hb|hb|hb
  ·have:=H0D.out
   omega
  ·have:=H8.out
   omega
  ·have:=H65.out
   omega
  ·rw [hol] at hb
   cases hb
  ·rw [hor] at hb
   cases hb)
 have HOF:=z_ (show rforkOf size cs depth c0 left right=rforkNd size depth c0 left right nl nr by unfold rforkOf;rw [hol,hor])
 have HLN:=z_ (And.intro (hcs left nl hol) (hcs right nr hor))
 have HOB:=z_ o0
 have HDEP:=z_ hdep
 obtain ⟨kl,rfl,hkl⟩:=nodeAt_some hol
 obtain ⟨kr,rfl,hkr⟩:=nodeAt_some hor
 obtain ⟨gA,mA,cA,LA1,LA2,LA5,LA9,lc1,lc2,lc5,lc9,hvl,hklm,hmc,b1,b2,b5,bl9,hml⟩:=HM.out.rowAt kl nl hkl
 obtain ⟨gB,mB,cB,RA1,RA2,RA5,RA9,rc1,rc2,rc5,rc9,hvl2,hkrm,hmc2,b1',b2',b5',br9,hmr⟩:=HM.out.rowAt kr nr hkr
 rw [hvl] at hvl2
 injection hvl2 with e1 e2 e3
 injection e1 with e1
 injection e1 with e1
 subst e1 e2 e3
 have HML:=z_ hml
 have HMR:=z_ hmr
 have hqb:=HM.out.qblk
 have HK0:=z_ hqb.cells.1
 rw [hvl] at hqb
 have HK2:=z_ hqb.cells.2.2
 have HL9:=z_ bl9
 have HR9i:=z_ br9
 have HFIRST0:=z_ (show ∀W:World,Below w.heap.size w W->Calls Tryz.prog 66 #[.slice A c0.length cc,.int .i64 depth] W fun e w'=>∃v0_:Value,e = .returned (v0_)/\Kd.R (Kd.int .u8) 5 w' W.heap.size (fun _=>True) v0_ (firstB c0 depth)/\Below W.heap.size W w' from fun W hb=>by
  refine (annalsref03_First.calls (2*c0.length+11) A cc c0 depth (firstB c0 depth) W (Kd.V_reads' (Kd.V_below HB0.out hb)).2.2 (Kd.V_reads' HB0.out).2.1 (rfirst_f c0 HOB.out depth (by have:=H65.out;omega) HDEP.out _ (by omega))).mono ?_
  rintro e w' ⟨v,he,hR,hB⟩
  exact ⟨v,he,Kd.R_mono hR (fun _ _=>trivial),hB⟩)
 have HFORK:=z_ (show ∀(nw:Int) (W:World),Below w.heap.size w W->Calls Tryz.prog 67 #[.int .i64 size,.int .i64 depth,.slice A c0.length cc,.int .i64 nw,.slice LA9 nl.f9.length lc9,.slice RA9 nr.f9.length rc9] W fun e w'=>∃v0_:Value,e = .returned (v0_)/\Kd.R (Kd.int .u8) 5 w' W.heap.size (fun _=>True) v0_ (hashB size 2 [num8 depth,firstB c0 depth,num8 nw,nl.f9,nr.f9])/\Below W.heap.size W w' from fun nw W hb=>by
  refine (annalsref09_ForkHash.calls (2*c0.length+11) size depth A cc c0 nw (fun k=>X k/\k<w.heap.size) LA9 lc9 nl.f9 (fun k=>X k/\k<w.heap.size) RA9 rc9 nr.f9 _ W (Kd.V_reads' (Kd.V_below HB0.out hb)).2.2 (Kd.V_reads' HB0.out).2.1 (Kd.V_below (Kd.V_bound HL9.out) hb) (Kd.V_below (Kd.V_bound HR9i.out) hb) (rfork_f _ size depth c0 nw nl.f9 nr.f9 (by omega) (by omega) HDEP.out (by have:=H65.out;omega) HOB.out HLN.out.1.2 HLN.out.2.2)).mono ?_
  rintro e w' ⟨v,he,hR,hB⟩
  exact ⟨v,he,Kd.R_mono hR (fun _ _=>trivial),hB⟩)
 have q1:(kl:Int)<(mA:Int):=by omega
 have q2:0<=(kl:Int):=by omega
 have q3:(kr:Int)<(mA:Int):=by omega
 have q4:0<=(kr:Int):=by omega
 clear hol hor hkl hkr hvl hklm hkrm hmc hmc2 b1 b2 b5 bl9 b1' b2' b5' br9 hml hmr hqb hcs o0 hdep
 go_enter Tryz.func36,Tryz.ntmps36
 go_wp2_with fail
 refine HTL.out.mono ?_
 rintro e w' ⟨rfl,rfl⟩
 go_wp2_with fail
 refine HTR.out.mono ?_
 rintro e w' ⟨rfl,rfl⟩
 go_wp2_with fail
 clear hd1 hd2 hd3 hd4
 refine start_ (n:=18) (S:=fun w'=>Below w.heap.size w w') (ds:=[]) (bt_ 18 0) (by kernel_rfl) rfl rfl (below_drew (Below.refl _ _)) (fun hHeld=>?_);refine with_tabW rfork_tab3 rfork_bits3 (fun HT_ HW_=>?_)
 have HB:=z_ (show Below w.heap.size w w.drew from below_drew (Below.refl _ _))
 generalize hgw:w.drew=w1 at HB hHeld ⊢
 clear hgw
 refine pure_ (i:=0) (N:=some 41) (v:=?_) (a':=?_) (bt_ 18 1) rfl rfl (any_of HT_.out (by kernel_rfl)) (fun _ _ _ h=>h) (Or.inl ⟨by rfl,?_⟩) ?_ ?_
 rotate_left
 ·intro w'
  go_simp
  with_reducible rfl
 rotate_left
 ·simp only [pq_]
  rfl
 refine pure_ (i:=1) (N:=some 42) (v:=?_) (a':=?_) (bt_ 18 3) rfl rfl (any_of HT_.out (by kernel_rfl)) (fun _ _ _ h=>h) (Or.inl ⟨by rfl,?_⟩) ?_ ?_
 rotate_left
 ·intro w'
  go_simp
  with_reducible rfl
 rotate_left
 ·simp only [pq_]
  rfl
 refine pure_ (i:=2) (N:=some 43) (v:=?_) (a':=?_) (bt_ 18 7) rfl rfl (any_of HT_.out (by kernel_rfl)) (fun _ _ _ h=>h) (Or.inl ⟨by rfl,?_⟩) ?_ ?_
 rotate_left
 ·intro w'
  go_simp
  with_reducible rfl
 rotate_left
 ·simp only [pq_]
  rfl
 refine take_ (i:=3) (N:=some 44) (v:=?_) (a':=?_) (bt_ 18 15) rfl rfl (take_ofW HT_.out HW_.out (by kernel_rfl)) (fun _ _ _ h=>h) (Or.inl ⟨by rfl,?_⟩) hHeld ?_ ?_
 rotate_left
 ·rintro w' s0
  have kk:=(s0.cell (World.block_lt_of_cell? w _ HK2.out)).trans HK2.out
  go_simp
  with_reducible rfl
 rotate_left
 ·simp only [pq_]
  rfl
 refine pure_ (i:=4) (N:=some 45) (v:=?_) (a':=?_) (bt_ 18 31) rfl rfl (any_of HT_.out (by kernel_rfl)) (fun _ _ _ h=>h) (Or.inl ⟨by rfl,?_⟩) ?_ ?_
 rotate_left
 ·intro w'
  go_simp
  with_reducible rfl
 rotate_left
 ·simp only [pq_]
  rfl
 refine pure_ (i:=5) (N:=some 46) (v:=?_) (a':=?_) (bt_ 18 63) rfl rfl (any_of HT_.out (by kernel_rfl)) (fun _ _ _ h=>h) (Or.inl ⟨by rfl,?_⟩) ?_ ?_
 rotate_left
 ·intro w'
  go_simp
  with_reducible rfl
 rotate_left
 ·simp only [pq_]
  rfl
 refine take_ (i:=6) (N:=some 47) (v:=?_) (a':=?_) (bt_ 18 127) rfl rfl (take_ofW HT_.out HW_.out (by kernel_rfl)) (fun _ _ _ h=>h) (Or.inl ⟨by rfl,?_⟩) hHeld ?_ ?_
 rotate_left
 ·rintro w' s0
  obtain ⟨m0,m1,m2,m3,m4,m5,m6,m7,m8,m9⟩:=HML.out
  replace m0:=(s0.cell (World.block_lt_of_cell? w _ m0)).trans m0
  replace m1:=(s0.cell (World.block_lt_of_cell? w _ m1)).trans m1
  replace m2:=(s0.cell (World.block_lt_of_cell? w _ m2)).trans m2
  replace m3:=(s0.cell (World.block_lt_of_cell? w _ m3)).trans m3
  replace m4:=(s0.cell (World.block_lt_of_cell? w _ m4)).trans m4
  replace m5:=(s0.cell (World.block_lt_of_cell? w _ m5)).trans m5
  replace m6:=(s0.cell (World.block_lt_of_cell? w _ m6)).trans m6
  replace m7:=(s0.cell (World.block_lt_of_cell? w _ m7)).trans m7
  replace m8:=(s0.cell (World.block_lt_of_cell? w _ m8)).trans m8
  replace m9:=(s0.cell (World.block_lt_of_cell? w _ m9)).trans m9
  go_simp
  with_reducible rfl
 rotate_left
 ·simp only [pq_]
  rfl
 refine pure_ (i:=7) (N:=some 48) (v:=?_) (a':=?_) (bt_ 18 255) rfl rfl (any_of HT_.out (by kernel_rfl)) (fun _ _ _ h=>h) (Or.inl ⟨by rfl,?_⟩) ?_ ?_
 rotate_left
 ·intro w'
  go_simp
  with_reducible rfl
 rotate_left
 ·simp only [pq_]
  rfl
 refine pure_ (i:=8) (N:=some 49) (v:=?_) (a':=?_) (bt_ 18 511) rfl rfl (any_of HT_.out (by kernel_rfl)) (fun _ _ _ h=>h) (Or.inl ⟨by rfl,?_⟩) ?_ ?_
 rotate_left
 ·intro w'
  go_simp
  with_reducible rfl
 rotate_left
 ·simp only [pq_]
  rfl
 refine pure_ (i:=9) (N:=some 50) (v:=?_) (a':=?_) (bt_ 18 1023) rfl rfl (any_of HT_.out (by kernel_rfl)) (fun _ _ _ h=>h) (Or.inl ⟨by rfl,?_⟩) ?_ ?_
 rotate_left
 ·intro w'
  go_simp
  with_reducible rfl
 rotate_left
 ·simp only [pq_]
  rfl
 refine take_ (i:=10) (N:=some 51) (v:=?_) (a':=?_) (bt_ 18 2047) rfl rfl (take_ofW HT_.out HW_.out (by kernel_rfl)) (fun _ _ _ h=>h) (Or.inl ⟨by rfl,?_⟩) hHeld ?_ ?_
 rotate_left
 ·rintro w' s0
  have kk:=(s0.cell (World.block_lt_of_cell? w _ HK2.out)).trans HK2.out
  go_simp
  with_reducible rfl
 rotate_left
 ·simp only [pq_]
  rfl
 refine pure_ (i:=11) (N:=some 52) (v:=?_) (a':=?_) (bt_ 18 4095) rfl rfl (any_of HT_.out (by kernel_rfl)) (fun _ _ _ h=>h) (Or.inl ⟨by rfl,?_⟩) ?_ ?_
 rotate_left
 ·intro w'
  go_simp
  with_reducible rfl
 rotate_left
 ·simp only [pq_]
  rfl
 refine pure_ (i:=12) (N:=some 53) (v:=?_) (a':=?_) (bt_ 18 8191) rfl rfl (any_of HT_.out (by kernel_rfl)) (fun _ _ _ h=>h) (Or.inl ⟨by rfl,?_⟩) ?_ ?_
 rotate_left
 ·intro w'
  go_simp
  with_reducible rfl
 rotate_left
 ·simp only [pq_]
  rfl
 refine take_ (i:=13) (N:=some 54) (v:=?_) (a':=?_) (bt_ 18 16383) rfl rfl (take_ofW HT_.out HW_.out (by kernel_rfl)) (fun _ _ _ h=>h) (Or.inl ⟨by rfl,?_⟩) hHeld ?_ ?_
 rotate_left
 ·rintro w' s0
  obtain ⟨m0,m1,m2,m3,m4,m5,m6,m7,m8,m9⟩:=HMR.out
  replace m0:=(s0.cell (World.block_lt_of_cell? w _ m0)).trans m0
  replace m1:=(s0.cell (World.block_lt_of_cell? w _ m1)).trans m1
  replace m2:=(s0.cell (World.block_lt_of_cell? w _ m2)).trans m2
  replace m3:=(s0.cell (World.block_lt_of_cell? w _ m3)).trans m3
  replace m4:=(s0.cell (World.block_lt_of_cell? w _ m4)).trans m4
  replace m5:=(s0.cell (World.block_lt_of_cell? w _ m5)).trans m5
  replace m6:=(s0.cell (World.block_lt_of_cell? w _ m6)).trans m6
  replace m7:=(s0.cell (World.block_lt_of_cell? w _ m7)).trans m7
  replace m8:=(s0.cell (World.block_lt_of_cell? w _ m8)).trans m8
  replace m9:=(s0.cell (World.block_lt_of_cell? w _ m9)).trans m9
  go_simp
  with_reducible rfl
 rotate_left
 ·simp only [pq_]
  rfl
 refine join_ (σ:=Nat×Nat) 2 (bt_ 18 65535) (fun s_=>[(12,.pointer (some ⟨s_.1,0,none⟩)),(13,.pointer (some ⟨s_.2,0,none⟩))]) (fun s_ w'=>NdB w' s_.1 zeroR/\NdB w' s_.2 zeroR/\s_.1≠s_.2/\w.heap.size<=s_.1/\w.heap.size<=s_.2/\Below w.heap.size w w') ?_ ?_
 rotate_left
 ·intro hCont
  refine two_ (i:=14) (j:=15) (Ni:=some 12) (Nj:=some 13) (bt_ 18 32767) (bt_ 18 49151) rfl rfl rfl rfl (two_of HT_.out (by kernel_rfl)) (by decide) (by decide) (fun K hK=>?_) (fun K hK=>?_)
  ·skip
   refine box_step ?hg (N:=12) ?hd (cs:=#[.bool false,.slice none 0 0,.slice none 0 0,.int .i64 0,.int .i64 0,.slice none 0 0,.int .i64 0,.int .i64 0,.int .i64 0,.slice none 0 0]) (t:=59) ?hr ?_;(case hd=>rfl);(case hg=>rfl);(case hr=>first|(go_simp;done)|(go_simp;rfl))
   intro gl hg_ wa hbox hb
   have HA:=z_ (show NdB wa gl zeroR from hbox)
   have HGa:=z_ (show w.heap.size<=gl/\gl<wa.heap.size from ⟨by have:=HB.out.size;omega,blk_lt hbox⟩)
   have HBa:=z_ (below_step HB.out hb)
   clear hb hbox hg_
   refine hK.out _ _ HBa.out (fun hHeld=>?_)
   clear hK K
   refine norm_ (a':=?_) ?_ ?_
   rotate_left
   ·show Act.put _ (some 12) _=_
    simp only [pq_]
    rfl
   refine one_ (i:=15) (N:=some 13) (bt_ 18 65535) rfl rfl (one_of HT_.out (by kernel_rfl)) (by decide) (fun K hK=>?_)
   refine box_step ?hg (N:=13) ?hd (cs:=#[.bool false,.slice none 0 0,.slice none 0 0,.int .i64 0,.int .i64 0,.slice none 0 0,.int .i64 0,.int .i64 0,.int .i64 0,.slice none 0 0]) (t:=59) ?hr ?_;(case hd=>rfl);(case hg=>rfl);(case hr=>first|(go_simp;done)|(go_simp;rfl))
   intro gr hg_ wb hbox hb
   have HC:=z_ (show NdB wb gr zeroR from hbox)
   have HA2:=z_ (NdB.below HA.out hb)
   have HGb:=z_ (show wa.heap.size<=gr from by omega)
   have HBb:=z_ (below_step HBa.out hb)
   clear hb hbox hg_
   refine hK.out _ _ HBb.out (fun hHeld=>?_)
   clear hK K
   refine norm_ (a':=?_) ?_ ?_
   rotate_left
   ·show Act.put _ (some 13) _=_
    simp only [pq_]
    rfl
   have h1:=HGa.out
   have h2:=HGb.out
   have h3:=HBa.out.size
   exact norm_ (by simp only [putAll,Act.put,List.setIfInBounds_toArray,List.set_cons_zero,List.set_cons_succ]) (hCont (gl,gr) _ ⟨HA2.out,HC.out,by omega,by omega,by omega,HBb.out⟩)
  ·skip
   refine box_step ?hg (N:=13) ?hd (cs:=#[.bool false,.slice none 0 0,.slice none 0 0,.int .i64 0,.int .i64 0,.slice none 0 0,.int .i64 0,.int .i64 0,.int .i64 0,.slice none 0 0]) (t:=59) ?hr ?_;(case hd=>rfl);(case hg=>rfl);(case hr=>first|(go_simp;done)|(go_simp;rfl))
   intro gr hg_ wa hbox hb
   have HA:=z_ (show NdB wa gr zeroR from hbox)
   have HGa:=z_ (show w.heap.size<=gr/\gr<wa.heap.size from ⟨by have:=HB.out.size;omega,blk_lt hbox⟩)
   have HBa:=z_ (below_step HB.out hb)
   clear hb hbox hg_
   refine hK.out _ _ HBa.out (fun hHeld=>?_)
   clear hK K
   refine norm_ (a':=?_) ?_ ?_
   rotate_left
   ·show Act.put _ (some 13) _=_
    simp only [pq_]
    rfl
   refine one_ (i:=14) (N:=some 12) (bt_ 18 65535) rfl rfl (one_of HT_.out (by kernel_rfl)) (by decide) (fun K hK=>?_)
   refine box_step ?hg (N:=12) ?hd (cs:=#[.bool false,.slice none 0 0,.slice none 0 0,.int .i64 0,.int .i64 0,.slice none 0 0,.int .i64 0,.int .i64 0,.int .i64 0,.slice none 0 0]) (t:=59) ?hr ?_;(case hd=>rfl);(case hg=>rfl);(case hr=>first|(go_simp;done)|(go_simp;rfl))
   intro gl hg_ wb hbox hb
   have HC:=z_ (show NdB wb gl zeroR from hbox)
   have HA2:=z_ (NdB.below HA.out hb)
   have HGb:=z_ (show wa.heap.size<=gl from by omega)
   have HBb:=z_ (below_step HBa.out hb)
   clear hb hbox hg_
   refine hK.out _ _ HBb.out (fun hHeld=>?_)
   clear hK K
   refine norm_ (a':=?_) ?_ ?_
   rotate_left
   ·show Act.put _ (some 12) _=_
    simp only [pq_]
    rfl
   have h1:=HGa.out
   have h2:=HGb.out
   have h3:=HBa.out.size
   exact norm_ (by simp only [putAll,Act.put,List.setIfInBounds_toArray,List.set_cons_zero,List.set_cons_succ]) (hCont (gl,gr) _ ⟨HC.out,HA2.out,by omega,by omega,by omega,HBb.out⟩)
 rintro ⟨gl,gr⟩ wq ⟨ha,hc,hne,h1,h2,hbq⟩
 have hHeld:=hbq
 have HA:=z_ (show NdB wq gl zeroR from ha)
 have HC:=z_ (show NdB wq gr zeroR from hc)
 have HNE:=z_ (show gl≠gr/\w.heap.size<=gl/\w.heap.size<=gr from ⟨hne,h1,h2⟩)
 have HBq:=z_ hbq
 clear ha hc hne h1 h2 hbq HB
 refine norm_ (a':=?_) ?_ ?_
 rotate_left
 ·simp only [putAll,Act.put,List.setIfInBounds_toArray,List.set_cons_zero,List.set_cons_succ]
  rfl
 refine one_ (i:=16) (N:=none) (bt_ 18 131071) rfl rfl (one_of HT_.out (by kernel_rfl)) (by decide) (fun K hK=>?_)
 obtain ⟨z0,z1,z2,z3,z4,z5,z6,z7,z8,z9⟩:=NdB.cells HA.out
 obtain ⟨f0,f1,f2,f3,f4,f5,f6,f7,f8,f9⟩:=HA.out.frozen
 obtain ⟨wr,hwx⟩ : ∃wx,wx=putN wq gl (.bool nl.f0) (.slice LA1 nl.f1.length lc1) (.slice LA2 nl.f2.length lc2) (.int .i64 nl.f3) (.int .i64 nl.f4) (.slice LA5 nl.f5.length lc5) (.int .i64 nl.f6) (.int .i64 nl.f7) (.int .i64 nl.f8) (.slice LA9 nl.f9.length lc9):=⟨_,rfl⟩
 refine skip_ (w1:=wr) (by rfl) rfl ?_ ?_
 ·rw [hwx]
  go_simp<;>first|rfl|done
 clear z0 z1 z2 z3 z4 z5 z6 z7 z8 z9 f0 f1 f2 f3 f4 f5 f6 f7 f8 f9
 have HA3:=z_ (show NdB wr gl [.bool nl.f0,.slice LA1 nl.f1.length lc1,.slice LA2 nl.f2.length lc2,.int .i64 nl.f3,.int .i64 nl.f4,.slice LA5 nl.f5.length lc5,.int .i64 nl.f6,.int .i64 nl.f7,.int .i64 nl.f8,.slice LA9 nl.f9.length lc9] from by rw [hwx];exact putN_nd HA.out _ _ _ _ _ _ _ _ _ _)
 have HBr:=z_ (show Below w.heap.size w wr from by rw [hwx];exact putN_below HBq.out HNE.out.2.1 _ _ _ _ _ _ _ _ _ _)
 have HC3:=z_ (show NdB wr gr zeroR from by rw [hwx];exact (putN_far HNE.out.1.symm _ _ _ _ _ _ _ _ _ _).trans HC.out)
 clear hwx
 refine hK.out _ _ HBr.out (fun hHeld=>?_)
 clear hK K
 refine one_ (i:=17) (N:=none) (bt_ 18 262143) rfl rfl (one_of HT_.out (by kernel_rfl)) (by decide) (fun K hK=>?_)
 obtain ⟨z0,z1,z2,z3,z4,z5,z6,z7,z8,z9⟩:=NdB.cells HC3.out
 obtain ⟨f0,f1,f2,f3,f4,f5,f6,f7,f8,f9⟩:=HC3.out.frozen
 obtain ⟨w3,hwx⟩ : ∃wx,wx=putN wr gr (.bool nr.f0) (.slice RA1 nr.f1.length rc1) (.slice RA2 nr.f2.length rc2) (.int .i64 nr.f3) (.int .i64 nr.f4) (.slice RA5 nr.f5.length rc5) (.int .i64 nr.f6) (.int .i64 nr.f7) (.int .i64 nr.f8) (.slice RA9 nr.f9.length rc9):=⟨_,rfl⟩
 refine skip_ (w1:=w3) (by rfl) rfl ?_ ?_
 ·rw [hwx]
  go_simp<;>first|rfl|done
 clear z0 z1 z2 z3 z4 z5 z6 z7 z8 z9 f0 f1 f2 f3 f4 f5 f6 f7 f8 f9
 have HC4:=z_ (show NdB w3 gr [.bool nr.f0,.slice RA1 nr.f1.length rc1,.slice RA2 nr.f2.length rc2,.int .i64 nr.f3,.int .i64 nr.f4,.slice RA5 nr.f5.length rc5,.int .i64 nr.f6,.int .i64 nr.f7,.int .i64 nr.f8,.slice RA9 nr.f9.length rc9] from by rw [hwx];exact putN_nd HC3.out _ _ _ _ _ _ _ _ _ _)
 have HB3:=z_ (show Below w.heap.size w w3 from by rw [hwx];exact putN_below HBr.out HNE.out.2.2 _ _ _ _ _ _ _ _ _ _)
 have HA4:=z_ (show NdB w3 gl [.bool nl.f0,.slice LA1 nl.f1.length lc1,.slice LA2 nl.f2.length lc2,.int .i64 nl.f3,.int .i64 nl.f4,.slice LA5 nl.f5.length lc5,.int .i64 nl.f6,.int .i64 nl.f7,.int .i64 nl.f8,.slice LA9 nl.f9.length lc9] from by rw [hwx];exact (putN_far HNE.out.1 _ _ _ _ _ _ _ _ _ _).trans HA3.out)
 clear hwx
 refine hK.out _ _ HB3.out (fun hHeld=>?_)
 clear hK K
 refine done_ (done_of HT_.out (by kernel_rfl)) ?_
 clear HA HC HBq HA3 HC3 HBr hHeld HT_ HW_
 have HFIRST:=z_ (show ∀W:World,Below w3.heap.size w3 W->_ from fun W hb=>HFIRST0.out W (HB3.out.trans (hb.mono HB3.out.size)))
 go_wp2_with fail
 refine start_ (n:=14) (S:=fun w'=>Below w3.heap.size w3 w') (ds:=[]) (bt_ 14 0) (by kernel_rfl) rfl rfl (below_drew (Below.refl _ _)) (fun hHeld=>?_);refine with_tabW rfork_tab4 rfork_bits4 (fun HT_ HW_=>?_)
 have HB:=z_ (show Below w3.heap.size w3 w3.drew from below_drew (Below.refl _ _))
 generalize hgw:w3.drew=w4 at HB hHeld ⊢
 clear hgw
 refine pure_ (i:=0) (N:=some 55) (v:=?_) (a':=?_) (bt_ 14 1) rfl rfl (any_of HT_.out (by kernel_rfl)) (fun _ _ _ h=>h) (Or.inl ⟨by rfl,?_⟩) ?_ ?_
 rotate_left
 ·intro w'
  go_simp
  with_reducible rfl
 rotate_left
 ·simp only [pq_]
  rfl
 refine pure_ (i:=1) (N:=some 56) (v:=?_) (a':=?_) (bt_ 14 3) rfl rfl (any_of HT_.out (by kernel_rfl)) (fun _ _ _ h=>h) (Or.inl ⟨by rfl,?_⟩) ?_ ?_
 rotate_left
 ·intro w'
  go_simp
  with_reducible rfl
 rotate_left
 ·simp only [pq_]
  rfl
 refine pure_ (i:=2) (N:=some 57) (v:=?_) (a':=?_) (bt_ 14 7) rfl rfl (any_of HT_.out (by kernel_rfl)) (fun _ _ _ h=>h) (Or.inl ⟨by rfl,?_⟩) ?_ ?_
 rotate_left
 ·intro w'
  go_simp
  with_reducible rfl
 rotate_left
 ·simp only [pq_]
  rfl
 refine pure_ (i:=4) (N:=some 59) (v:=?_) (a':=?_) (bt_ 14 23) rfl rfl (any_of HT_.out (by kernel_rfl)) (fun _ _ _ h=>h) (Or.inl ⟨by rfl,?_⟩) ?_ ?_
 rotate_left
 ·intro w'
  go_simp
  with_reducible rfl
 rotate_left
 ·simp only [pq_]
  rfl
 refine take_ (i:=5) (N:=some 60) (v:=?_) (a':=?_) (bt_ 14 55) rfl rfl (take_ofW HT_.out HW_.out (by kernel_rfl)) (fun _ _ _ h=>h) (Or.inl ⟨by rfl,?_⟩) hHeld ?_ ?_
 rotate_left
 ·rintro w' s0
  have m6:=blk_cell (NdB.below HA4.out s0) 6
  go_simp
  with_reducible rfl
 rotate_left
 ·simp only [pq_]
  rfl
 refine pure_ (i:=6) (N:=some 61) (v:=?_) (a':=?_) (bt_ 14 119) rfl rfl (any_of HT_.out (by kernel_rfl)) (fun _ _ _ h=>h) (Or.inl ⟨by rfl,?_⟩) ?_ ?_
 rotate_left
 ·intro w'
  go_simp
  with_reducible rfl
 rotate_left
 ·simp only [pq_]
  rfl
 refine take_ (i:=7) (N:=some 62) (v:=?_) (a':=?_) (bt_ 14 247) rfl rfl (take_ofW HT_.out HW_.out (by kernel_rfl)) (fun _ _ _ h=>h) (Or.inl ⟨by rfl,?_⟩) hHeld ?_ ?_
 rotate_left
 ·rintro w' s0
  have m6:=blk_cell (NdB.below HC4.out s0) 6
  go_simp
  with_reducible rfl
 rotate_left
 ·simp only [pq_]
  rfl
 refine pure_ (i:=8) (N:=some 63) (v:=?_) (a':=?_) (bt_ 14 503) rfl rfl (any_of HT_.out (by kernel_rfl)) (fun _ _ _ h=>h) (Or.inl ⟨by rfl,?_⟩) ?_ ?_
 rotate_left
 ·intro w'
  go_simp
  with_reducible rfl
 rotate_left
 ·simp only [pq_]
  rfl
 refine pure_ (i:=9) (N:=some 64) (v:=?_) (a':=?_) (bt_ 14 1015) rfl rfl (any_of HT_.out (by kernel_rfl)) (fun _ _ _ h=>h) (Or.inl ⟨by rfl,?_⟩) ?_ ?_
 rotate_left
 ·intro w'
  go_simp
  with_reducible rfl
 rotate_left
 ·simp only [pq_]
  rfl
 refine pure_ (i:=10) (N:=some 65) (v:=?_) (a':=?_) (bt_ 14 2039) rfl rfl (any_of HT_.out (by kernel_rfl)) (fun _ _ _ h=>h) (Or.inl ⟨by rfl,?_⟩) ?_ ?_
 rotate_left
 ·intro w'
  go_simp
  with_reducible rfl
 rotate_left
 ·simp only [pq_]
  rfl
 refine join_ (σ:=Option Addr×Nat×Nat) 1 (bt_ 14 8191) (fun s_=>[(58,.slice s_.1 (firstB c0 depth).length s_.2.1),(14,.pointer (some ⟨s_.2.2,0,none⟩)),(66,.agg #[.bool false,.slice none 0 0,.slice none 0 0,.int .i64 0,.int .i64 depth,.slice s_.1 (firstB c0 depth).length s_.2.1,.int .i64 (if nl.f6<nr.f6 then nr.f6 else nl.f6),.int .i64 (kl:Int),.int .i64 (kr:Int),.slice none 0 0])]) (fun s_ w'=>Kd.R (Kd.int .u8) 5 w' w3.heap.size (fun k=>k≠s_.2.2) (.slice s_.1 (firstB c0 depth).length s_.2.1) (firstB c0 depth)/\NdB w' s_.2.2 zeroR/\Below w3.heap.size w3 w'/\w3.heap.size<=s_.2.2) ?_ ?_
 rotate_left
 ·intro hCont
  refine two_ (i:=3) (j:=12) (Ni:=some 58) (Nj:=some 14) (bt_ 14 2047) (bt_ 14 6135) rfl rfl rfl rfl (two_of HT_.out (by kernel_rfl)) (by decide) (by decide) (fun K hK=>?_) (fun K hK=>?_)
  ·skip
   refine goes_ Tryz.func66 (by kernel_rfl) rfl #[.slice A c0.length cc,.int .i64 depth] (by rfl) rfl rfl (by (try simp only [List.map_toArray,List.map_cons,List.map_nil]);first|done|rfl) ?_
   with_reducible refine (HFIRST.out _ HB.out).mono ?_
   rintro e w23 ⟨v5,rfl,hR5,hb⟩
   obtain ⟨B5,d5,rfl⟩:=Kd.R_slice hR5
   refine ⟨_,rfl,?_⟩
   have hbs:=HB.out.size
   have HR5:=z_ (Kd.R_lower hR5 hbs)
   replace HB:=z_ (below_step HB.out hb)
   refine hK.out _ _ HB.out (fun hHeld=>?_)
   clear hK K
   refine norm_ (a':=?_) ?_ ?_
   rotate_left
   ·show Act.put _ (some 58) _=_
    simp only [pq_]
    rfl
   refine pure_ (i:=11) (N:=some 66) (v:=?_) (a':=?_) (bt_ 14 4095) rfl rfl (any_of HT_.out (by kernel_rfl)) (fun _ _ _ h=>h) (Or.inl ⟨by rfl,?_⟩) ?_ ?_
   rotate_left
   ·intro w'
    go_simp
    with_reducible rfl
   rotate_left
   ·simp only [pq_]
    rfl
   refine one_ (i:=12) (N:=some 14) (bt_ 14 8191) rfl rfl (one_of HT_.out (by kernel_rfl)) (by decide) (fun K hK=>?_)
   refine box_step ?hg (N:=14) ?hd (cs:=#[.bool false,.slice none 0 0,.slice none 0 0,.int .i64 0,.int .i64 0,.slice none 0 0,.int .i64 0,.int .i64 0,.int .i64 0,.slice none 0 0]) (t:=59) ?hr ?_;(case hd=>rfl);(case hg=>rfl);(case hr=>first|(go_simp;done)|(go_simp;rfl))
   intro g hg w24 hbox hb
   have HGE:=z_ (show w3.heap.size<=g from by have:=HB.out.size;omega)
   have HG:=z_ (show NdB w24 g zeroR from hbox)
   replace HR5:=z_ (Kd.R_mono (Kd.R_below (Kd.R_bound HR5.out) hb) (ok':=fun k=>k≠g) (fun k hk=>by have:=hk.2.2.1;omega))
   replace HB:=z_ (below_step HB.out hb)
   refine hK.out _ _ HB.out (fun hHeld=>?_)
   clear hK K
   refine norm_ (a':=?_) ?_ ?_
   rotate_left
   ·show Act.put _ (some 14) _=_
    simp only [pq_]
    rfl
   exact norm_ (by simp only [putAll,Act.put,List.setIfInBounds_toArray,List.set_cons_zero,List.set_cons_succ]) (hCont (B5,d5,g) _ ⟨HR5.out,HG.out,HB.out,HGE.out⟩)
  ·skip
   refine box_step ?hg (N:=14) ?hd (cs:=#[.bool false,.slice none 0 0,.slice none 0 0,.int .i64 0,.int .i64 0,.slice none 0 0,.int .i64 0,.int .i64 0,.int .i64 0,.slice none 0 0]) (t:=59) ?hr ?_;(case hd=>rfl);(case hg=>rfl);(case hr=>first|(go_simp;done)|(go_simp;rfl))
   intro g hg w24 hbox hb
   have HGE:=z_ (show w3.heap.size<=g/\g<w24.heap.size from ⟨by have:=HB.out.size;omega,blk_lt hbox⟩)
   have HG:=z_ (show NdB w24 g zeroR from hbox)
   replace HB:=z_ (below_step HB.out hb)
   refine hK.out _ _ HB.out (fun hHeld=>?_)
   clear hK K
   refine norm_ (a':=?_) ?_ ?_
   rotate_left
   ·show Act.put _ (some 14) _=_
    simp only [pq_]
    rfl
   refine one_ (i:=3) (N:=some 58) (bt_ 14 6143) rfl rfl (one_of HT_.out (by kernel_rfl)) (by decide) (fun K hK=>?_)
   refine goes_ Tryz.func66 (by kernel_rfl) rfl #[.slice A c0.length cc,.int .i64 depth] (by rfl) rfl rfl (by (try simp only [List.map_toArray,List.map_cons,List.map_nil]);first|done|rfl) ?_
   with_reducible refine (HFIRST.out _ HB.out).mono ?_
   rintro e w23 ⟨v5,rfl,hR5,hb⟩
   obtain ⟨B5,d5,rfl⟩:=Kd.R_slice hR5
   refine ⟨_,rfl,?_⟩
   have hbs:=HB.out.size
   have HR5:=z_ (Kd.R_lower (Kd.R_mono (Kd.R_bound hR5) (ok':=fun k=>k≠g) (fun k hk=>by have:=hk.2.1;have:=HGE.out.2;omega)) hbs)
   replace HG:=z_ (HG.out.below hb)
   replace HGE:=z_ HGE.out.1
   replace HB:=z_ (below_step HB.out hb)
   refine hK.out _ _ HB.out (fun hHeld=>?_)
   clear hK K
   refine norm_ (a':=?_) ?_ ?_
   rotate_left
   ·show Act.put _ (some 58) _=_
    simp only [pq_]
    rfl
   refine pure_ (i:=11) (N:=some 66) (v:=?_) (a':=?_) (bt_ 14 8191) rfl rfl (any_of HT_.out (by kernel_rfl)) (fun _ _ _ h=>h) (Or.inl ⟨by rfl,?_⟩) ?_ ?_
   rotate_left
   ·intro w'
    go_simp
    with_reducible rfl
   rotate_left
   ·simp only [pq_]
    rfl
   exact norm_ (by simp only [putAll,Act.put,List.setIfInBounds_toArray,List.set_cons_zero,List.set_cons_succ]) (hCont (B5,d5,g) _ ⟨HR5.out,HG.out,HB.out,HGE.out⟩)
 rintro ⟨B5,d5,g⟩ wq ⟨hR5,hg,hb,hge⟩
 have hHeld:=hb
 refine norm_ (a':=?_) ?_ ?_
 rotate_left
 ·simp only [putAll,Act.put,List.setIfInBounds_toArray,List.set_cons_zero,List.set_cons_succ]
  rfl
 refine one_ (i:=13) (N:=none) (bt_ 14 16383) rfl rfl (one_of HT_.out (by kernel_rfl)) (by decide) (fun K hK=>?_)
 obtain ⟨nw,hnw⟩ : ∃nw,nw=(if nl.f6<nr.f6 then nr.f6 else nl.f6):=⟨_,rfl⟩
 have HNW:=z_ hnw
 obtain ⟨w5,hw5⟩ : ∃w5,w5=putN wq g (.bool false) (.slice none 0 0) (.slice none 0 0) (.int .i64 0) (.int .i64 depth) (.slice B5 (firstB c0 depth).length d5) (.int .i64 nw) (.int .i64 (kl:Int)) (.int .i64 (kr:Int)) (.slice none 0 0):=⟨_,rfl⟩
 have HG5:=z_ (show NdB w5 g [.bool false,.slice none 0 0,.slice none 0 0,.int .i64 0,.int .i64 depth,.slice B5 (firstB c0 depth).length d5,.int .i64 nw,.int .i64 (kl:Int),.int .i64 (kr:Int),.slice none 0 0] from by rw [hw5];exact putN_nd hg _ _ _ _ _ _ _ _ _ _)
 have HB5:=z_ (show Below w3.heap.size w3 w5 from by rw [hw5];exact putN_below hb hge _ _ _ _ _ _ _ _ _ _)
 have HR5:=z_ (show Kd.R (Kd.int .u8) 5 w5 w3.heap.size (fun k=>k≠g) (.slice B5 (firstB c0 depth).length d5) (firstB c0 depth) from by rw [hw5];exact Kd.R_step hR5 (fun k hk _=>putN_far hk _ _ _ _ _ _ _ _ _ _))
 have HGE:=z_ hge
 obtain ⟨z0,z1,z2,z3,z4,z5,z6,z7,z8,z9⟩:=NdB.cells hg
 obtain ⟨f0,f1,f2,f3,f4,f5,f6,f7,f8,f9⟩:=NdB.frozen hg
 clear hR5
 refine skip_ (w1:=w5) (by rfl) rfl ?_ ?_
 ·rw [hw5,hnw]
  go_simp<;>first|rfl|done
 clear z0 z1 z2 z3 z4 z5 z6 z7 z8 z9 f0 f1 f2 f3 f4 f5 f6 f7 f8 f9 hw5 hg hb hge hHeld
 refine hK.out _ _ HB5.out (fun hHeld=>?_)
 clear hK K hHeld
 refine done_ (done_of HT_.out (by kernel_rfl)) ?_
 clear HT_ HW_ HB
 have HB05:=z_ (show Below w.heap.size w w5 from HB3.out.trans (HB5.out.mono HB3.out.size))
 have HA5:=z_ (NdB.below HA4.out HB5.out)
 have HC5:=z_ (NdB.below HC4.out HB5.out)
 have HK05:=z_ (show w5.cell? ⟨q,0,none⟩=some (.int .i64 size) from (HB05.out.cell (World.block_lt_of_cell? w _ HK0.out)).trans HK0.out)
 clear HFIRST HFIRST0 HA4 HC4 HTL HTR HML HMR HK2
 try rw [<-HNW.out]
 clear hnw
 go_wp2_with fail
 refine start_ (n:=15) (S:=fun w'=>Below w5.heap.size w5 w') (ds:=[14]) (bt_ 15 0) (by kernel_rfl) rfl rfl (below_drew (Below.refl _ _)) (fun hHeld=>?_);refine with_tabW rfork_tab5 rfork_bits5 (fun HT_ HW_=>?_)
 have HB:=z_ (show Below w5.heap.size w5 w5.drew from below_drew (Below.refl _ _))
 generalize hgw:w5.drew=w6 at HB hHeld ⊢
 clear hgw
 refine pure_ (i:=0) (N:=some 67) (v:=?_) (a':=?_) (bt_ 15 1) rfl rfl (any_of HT_.out (by kernel_rfl)) (fun _ _ _ h=>h) (Or.inl ⟨by rfl,?_⟩) ?_ ?_
 rotate_left
 ·intro w'
  go_simp
  with_reducible rfl
 rotate_left
 ·simp only [pq_]
  rfl
 refine pure_ (i:=1) (N:=some 68) (v:=?_) (a':=?_) (bt_ 15 3) rfl rfl (any_of HT_.out (by kernel_rfl)) (fun _ _ _ h=>h) (Or.inl ⟨by rfl,?_⟩) ?_ ?_
 rotate_left
 ·intro w'
  go_simp
  with_reducible rfl
 rotate_left
 ·simp only [pq_]
  rfl
 refine pure_ (i:=2) (N:=some 69) (v:=?_) (a':=?_) (bt_ 15 7) rfl rfl (any_of HT_.out (by kernel_rfl)) (fun _ _ _ h=>h) (Or.inl ⟨by rfl,?_⟩) ?_ ?_
 rotate_left
 ·intro w'
  go_simp
  with_reducible rfl
 rotate_left
 ·simp only [pq_]
  rfl
 refine take_ (i:=3) (N:=some 70) (v:=?_) (a':=?_) (bt_ 15 15) rfl rfl (take_ofW HT_.out HW_.out (by kernel_rfl)) (fun _ _ _ h=>h) (Or.inl ⟨by rfl,?_⟩) hHeld ?_ ?_
 rotate_left
 ·rintro w' s0
  have kk:=(s0.cell (World.block_lt_of_cell? w5 _ HK05.out)).trans HK05.out
  go_simp
  with_reducible rfl
 rotate_left
 ·simp only [pq_]
  rfl
 refine pure_ (i:=4) (N:=some 71) (v:=?_) (a':=?_) (bt_ 15 31) rfl rfl (any_of HT_.out (by kernel_rfl)) (fun _ _ _ h=>h) (Or.inl ⟨by rfl,?_⟩) ?_ ?_
 rotate_left
 ·intro w'
  go_simp
  with_reducible rfl
 rotate_left
 ·simp only [pq_]
  rfl
 refine pure_ (i:=5) (N:=some 72) (v:=?_) (a':=?_) (bt_ 15 63) rfl rfl (any_of HT_.out (by kernel_rfl)) (fun _ _ _ h=>h) (Or.inl ⟨by rfl,?_⟩) ?_ ?_
 rotate_left
 ·intro w'
  go_simp
  with_reducible rfl
 rotate_left
 ·simp only [pq_]
  rfl
 refine pure_ (i:=6) (N:=some 73) (v:=?_) (a':=?_) (bt_ 15 127) rfl rfl (any_of HT_.out (by kernel_rfl)) (fun _ _ _ h=>h) (Or.inl ⟨by rfl,?_⟩) ?_ ?_
 rotate_left
 ·intro w'
  go_simp
  with_reducible rfl
 rotate_left
 ·simp only [pq_]
  rfl
 refine take_ (i:=7) (N:=some 74) (v:=?_) (a':=?_) (bt_ 15 255) rfl rfl (take_ofW HT_.out HW_.out (by kernel_rfl)) (fun _ _ _ h=>h) (Or.inl ⟨by rfl,?_⟩) hHeld ?_ ?_
 rotate_left
 ·rintro w' s0
  have m6:=blk_cell (NdB.below HG5.out s0) 6
  go_simp
  with_reducible rfl
 rotate_left
 ·simp only [pq_]
  rfl
 refine pure_ (i:=8) (N:=some 75) (v:=?_) (a':=?_) (bt_ 15 511) rfl rfl (any_of HT_.out (by kernel_rfl)) (fun _ _ _ h=>h) (Or.inl ⟨by rfl,?_⟩) ?_ ?_
 rotate_left
 ·intro w'
  go_simp
  with_reducible rfl
 rotate_left
 ·simp only [pq_]
  rfl
 refine take_ (i:=9) (N:=some 76) (v:=?_) (a':=?_) (bt_ 15 1023) rfl rfl (take_ofW HT_.out HW_.out (by kernel_rfl)) (fun _ _ _ h=>h) (Or.inl ⟨by rfl,?_⟩) hHeld ?_ ?_
 rotate_left
 ·rintro w' s0
  have m9:=blk_cell (NdB.below HA5.out s0) 9
  go_simp
  with_reducible rfl
 rotate_left
 ·simp only [pq_]
  rfl
 refine pure_ (i:=10) (N:=some 77) (v:=?_) (a':=?_) (bt_ 15 2047) rfl rfl (any_of HT_.out (by kernel_rfl)) (fun _ _ _ h=>h) (Or.inl ⟨by rfl,?_⟩) ?_ ?_
 rotate_left
 ·intro w'
  go_simp
  with_reducible rfl
 rotate_left
 ·simp only [pq_]
  rfl
 refine take_ (i:=11) (N:=some 78) (v:=?_) (a':=?_) (bt_ 15 4095) rfl rfl (take_ofW HT_.out HW_.out (by kernel_rfl)) (fun _ _ _ h=>h) (Or.inl ⟨by rfl,?_⟩) hHeld ?_ ?_
 rotate_left
 ·rintro w' s0
  have m9:=blk_cell (NdB.below HC5.out s0) 9
  go_simp
  with_reducible rfl
 rotate_left
 ·simp only [pq_]
  rfl
 refine one_ (i:=12) (N:=some 79) (bt_ 15 8191) rfl rfl (one_of HT_.out (by kernel_rfl)) (by decide) (fun K hK=>?_)
 refine goes_ Tryz.func67 (by kernel_rfl) rfl #[.int .i64 size,.int .i64 depth,.slice A c0.length cc,.int .i64 nw,.slice LA9 nl.f9.length lc9,.slice RA9 nr.f9.length rc9] (by rfl) rfl rfl (by (try simp only [List.map_toArray,List.map_cons,List.map_nil]);first|done|rfl) ?_
 refine (HFORK.out nw _ (HB05.out.trans (HB.out.mono HB05.out.size))).mono ?_
 obtain ⟨lh,hlh⟩ : ∃lh,lh=hashB size 2 [num8 depth,firstB c0 depth,num8 nw,nl.f9,nr.f9]:=⟨_,rfl⟩
 rw [<-hlh]
 have HLH:=z_ hlh
 clear hlh
 rintro e3 wy ⟨v,rfl,hR9,hB9⟩
 obtain ⟨B9,d9,rfl⟩:=Kd.R_slice hR9
 refine ⟨_,rfl,?_⟩
 have HR9:=z_ hR9
 have HB9:=z_ hB9
 have HBy:=z_ (below_step HB.out hB9)
 have HW6:=z_ HB.out.size
 clear hR9 hB9
 refine hK.out _ _ HBy.out (fun hHeld=>?_)
 clear hK K
 refine norm_ (a':=?_) ?_ ?_
 rotate_left
 ·show Act.put _ (some 79) _=_
  simp only [pq_]
  rfl
 refine pure_ (i:=13) (N:=some 80) (v:=?_) (a':=?_) (bt_ 15 16383) rfl rfl (any_of HT_.out (by kernel_rfl)) (fun _ _ _ h=>h) (Or.inl ⟨by rfl,?_⟩) ?_ ?_
 rotate_left
 ·intro w'
  go_simp
  with_reducible rfl
 rotate_left
 ·simp only [pq_]
  rfl
 refine last_ (i:=14) (N:=none) (bt_ 15 32767) rfl rfl (one_of HT_.out (by kernel_rfl)) (by decide) (fun K hK=>?_)
 have HGy:=z_ (NdB.below HG5.out HBy.out)
 have k3:=blk_cell HGy.out 9
 have kf:=blk_frozen HGy.out 9
 obtain ⟨w8,hw8⟩ : ∃w8,w8=wy.setCell ⟨g,9,none⟩ (.slice B9 lh.length d9):=⟨_,rfl⟩
 refine skip_ (w1:=w8) (by rfl) rfl ?_ ?_
 ·(go_simp<;>first|rfl|(rw [hw8];rfl)|(subst hw8;rfl))
 clear k3 kf hHeld
 have HG8:=z_ (show NdB w8 g [.bool false,.slice none 0 0,.slice none 0 0,.int .i64 0,.int .i64 depth,.slice B5 (firstB c0 depth).length d5,.int .i64 nw,.int .i64 (kl:Int),.int .i64 (kr:Int),.slice B9 lh.length d9] from by rw [hw8];exact blk_set HGy.out 9 _)
 have HW8:=z_ hw8
 clear hw8
 refine hK.out _ _ ?_
 clear hK K
 refine done_ (done_of HT_.out (by kernel_rfl)) ?_
 clear HT_ HW_
 have HB08:=z_ (show Below w.heap.size w w8 from by
  rw [HW8.out]
  exact Below.setCell (HB05.out.trans (HBy.out.mono HB05.out.size)) (by have:=HGE.out;have:=HB3.out.size;show w.heap.size<=g;omega) _)
 obtain ⟨z0,z1,z2,z3,z4,z5,z6,z7,z8,z9⟩:=NdB.cells HG8.out
 go_wp2_with fail
 clear z0 z1 z2 z3 z4 z5 z6 z7 z8 z9
 obtain ⟨X4,hX4⟩ : ∃X4:Nat->Prop,X4=fun k=>X k\/(w.heap.size<=k/\k<w8.heap.size):=⟨_,rfl⟩
 have hsepX : ∀k,X k->k<w.heap.size/\¬OwnQ q vl k:=by
  obtain ⟨rows,hv⟩:=HM.out.mem
  exact hv.sep
 have hownlt : ∀k,OwnQ q vl k->k<w.heap.size:=by
  obtain ⟨rows,hv⟩:=HM.out.mem
  exact hv.own_lt
 have s1:=HB08.out.size
 have s3:=HB3.out.size
 have s5:=HB5.out.size
 have sy:=HBy.out.size
 have s6:=HW6.out
 have hge:=HGE.out
 have hgl:g<w5.heap.size:=blk_lt HG5.out
 have hsz:w8.heap.size=wy.heap.size:=by rw [HW8.out];simp [World.setCell]
 have hfar : ∀k,k≠g->w8.heap[k]? = wy.heap[k]? := fun k hk=>by rw [HW8.out];exact Below.heap_setCell wy ⟨g,9,none⟩ _ k hk
 have hM8:RefM w8 base q size most vl X4 cs:=HM.out.step (by omega) (fun k hk _=>HB08.out.block k hk) (fun k hx=>by rw [hX4];exact .inl hx) (fun k hx=>by
  rw [hX4] at hx
  rcases hx with hx|hx
  ·exact ⟨by have:=(hsepX k hx).1;omega,(hsepX k hx).2⟩
  ·exact ⟨by omega,fun ho=>by have:=hownlt k ho;omega⟩)
 have hb5:BX w8 X4 (.slice B5 (firstB c0 depth).length d5) (firstB c0 depth):=
  Kd.V_mono (Kd.V_step (Kd.R_V (base':=0) (Kd.R_bound HR5.out)) (fun k hk hl=>by rw [hfar k hk.1];exact HBy.out.block k hl)) (fun k hk=>by rw [hX4];have:=hk.2.1;have:=hk.2.2.1;exact .inr ⟨by omega,by omega⟩)
 have hb9:BX w8 X4 (.slice B9 lh.length d9) lh:=
  Kd.V_mono (Kd.V_step (Kd.R_V (base':=0) (Kd.R_bound HR9.out)) (fun k hk hl=>hfar k (by have:=hk.2.1;omega))) (fun k hk=>by rw [hX4];have:=hk.2.1;have:=hk.2.2.1;exact .inr ⟨by omega,by omega⟩)
 have HGR:=z_ (show Grew w X X4 from fun k hk=>by
  rw [hX4] at hk
  exact hk.imp id (fun h=>h.1))
 have h9:0<lh.length:=by
  rw [HLH.out,hashB_len size 2 _ HM.out.hs (by
   have h1:=firstB_length c0 depth
   have h2:=H65.out
   have h3:=HLN.out.1.1.2.2.2
   have h4:=HLN.out.2.1.2.2.2
   simp [isLong,num8_len]
   omega)]
  have:=HM.out.hs
  omega
 have hput:=rput_calls hM8 ⟨false,[],[],0,depth,firstB c0 depth,nw,(kl:Int),(kr:Int),lh⟩ h9 none none B5 B9 0 0 d5 d9 (Kd.V_nil _ _ _ _ _) (Kd.V_nil _ _ _ _ _) hb5 hb9
 clear hM8 hb5 hb9 hX4 hsepX hownlt hfar hsz s1 s3 s5 sy s6 hge hgl h9
 refine hput.mono ?_
 rintro e5 w9 hpost
 have HPO:=z_ hpost
 clear hpost hput
 by_cases hfull:(usedN cs:Int)=most
 ·obtain ⟨rfl,hp⟩:=HPO.out.full hfull
  have HP:=z_ hp
  have HFU:=z_ hfull
  clear hp HPO hfull
  go_wp2_with fail
  go_ret2
  exact ⟨fun h=>absurd h HC.out,fun _ _=>⟨rfl,HP.out.start HGR.out HB08.out HBW.out.1⟩,fun _ h=>absurd HFU.out h⟩
 ·obtain ⟨rfl,hp⟩:=HPO.out.more hfull
  have HP:=z_ hp
  have HFU:=z_ hfull
  clear hp HPO hfull
  go_wp2_with fail
  go_ret2
  refine ⟨fun h=>absurd h HC.out,fun _ h=>absurd h HFU.out,fun _ _=>⟨rfl,?_⟩⟩
  rw [HOF.out]
  unfold rforkNd
  rw [<-HNW.out,<-HLH.out]
  exact HP.out.start HGR.out HB08.out HBW.out.1
end Go.Proofs.YtdeneoknjeegbaaGreatDoor.P
end
section
namespace Go.Proofs.YtdeneoknjeegbaaGreatDoor.P
open Go.RowKit YtdeneoknjeegbaaGreatDoor.Pure YtdeneoknjeegbaaGreatDoorW.PrintWords YtdeneoknjeegbaaGreatDoorW.PrintLast YtdeneoknjeegbaaGreatDoorW.PrintMore
theorem cut_twice : ∀s:Fin 8,∀x:Fin 256,Go.bits .and .u8 (Go.bits .and .u8 (x.val:Int) (255*2^s.val%256)) (255*2^s.val%256)=Go.bits .and .u8 (x.val:Int) (255*2^s.val%256):=by decide +kernel
theorem cutByte_idem (x:Int) (o:Nat) (ho:0<o/\o<8) (hx:0<=x/\x<=255):cutByte (cutByte x (o:Int)) (o:Int)=cutByte x (o:Int):=by
 unfold cutByte
 have:=cut_twice ⟨8-o,by omega⟩ ⟨x.toNat,by omega⟩
 simp only [Int.toNat_of_nonneg hx.1] at this
 rw [show (8-(o:Int)).toNat=8-o by omega]
 exact this
theorem firstB_idem (l:List Int) (hb:BytesOk l) (a:Int):firstB (firstB l a) a=firstB l a:=by
 by_cases h8:8*(l.length:Int)<=a
 ·have:firstB l a=l:=by unfold firstB;rw [if_pos h8]
  rw [this,this]
 by_cases h1:a<1
 ·have:firstB l a = []:=by unfold firstB;rw [if_neg h8,if_pos h1]
  rw [this]
  unfold firstB
  (repeat' split)<;>first|rfl|omega
 have e1:firstB l a=firstBits l a.toNat:=by unfold firstB;rw [if_neg h8,if_neg h1]
 obtain ⟨n,hn⟩ : ∃n,n=a.toNat:=⟨_,rfl⟩
 obtain ⟨m,hm⟩ : ∃m,m=bitBytes n:=⟨_,rfl⟩
 have hm':m=(n-1)/8+1:=hm
 have hml:m<=l.length:=by omega
 rw [e1]
 by_cases h0:n%8=0
 ·have e2:firstBits l a.toNat=l.take m:=by unfold firstBits;rw [<-hn,if_pos h0,<-hm]
  rw [e2]
  unfold firstB
  rw [if_pos (by rw [List.length_take];omega)]
 ·obtain ⟨t,ht⟩ : ∃t,t=l.take m:=⟨_,rfl⟩
  have htl:t.length=m:=by rw [ht,List.length_take];omega
  have e2:firstBits l a.toNat=t.set (m-1) (cutByte (t.getD (m-1) 0) ((n%8:Nat):Int)):=by unfold firstBits;rw [<-hn,if_neg h0,<-hm,<-ht]
  have hx:0<=t.getD (m-1) 0/\t.getD (m-1) 0<=255:=BytesOk.get (show BytesOk t from fun x hx=>hb x (by rw [ht] at hx;exact List.mem_of_mem_take hx)) _
  obtain ⟨y,hy⟩ : ∃y,y=cutByte (t.getD (m-1) 0) ((n%8:Nat):Int):=⟨_,rfl⟩
  have hyy:cutByte y ((n%8:Nat):Int)=y:=by rw [hy];exact cutByte_idem _ _ (by omega) hx
  rw [e2,<-hy]
  unfold firstB
  rw [if_neg (by rw [List.length_set,htl];omega),if_neg h1]
  unfold firstBits
  rw [<-hn,if_neg h0,<-hm,List.take_of_length_le (by rw [List.length_set,htl];omega),List.getD_eq_getElem?_getD,List.getElem?_set_self (by omega)]
  simp only [Option.getD_some]
  rw [hyy,List.set_set]
theorem wordByte_ok (ws:List Int) (i:Nat):0<=wordByte ws i/\wordByte ws i<=255:=by
 unfold wordByte
 omega
theorem outB_ok (ws:List Int) : ∀k,BytesOk (outB ws k)
 | 0=>fun x hx=>by
   have:=List.eq_of_mem_replicate hx
   omega
 | k+1=>fun x hx=>by
   rcases List.mem_or_eq_of_mem_set hx with h|rfl
   ·exact outB_ok ws k x h
   ·exact wordByte_ok ws k
theorem hashB_ok (size tag:Int) (parts:List (List Int)):BytesOk (hashB size tag parts):=by
 unfold hashB
 split
 ·intro x hx;cases hx
 ·intro x hx
  exact outB_ok _ 32 x (List.mem_of_mem_take hx)
theorem hashB_le (size tag:Int) (parts:List (List Int)):(hashB size tag parts).length<=32:=by
 unfold hashB
 split
 ·simp
 ·rw [List.length_take,shaSum_length]
  omega
def CsOk (cs:Cs):Prop:=∀n,some n∈cs->NdLen n/\BytesOk n.f9
theorem nodeAt_mem {cs:Cs} {i:Int} {n:Nd} (h:nodeAt cs i=some n):some n∈cs:=by
 obtain ⟨k,rfl,hk⟩:=nodeAt_some h
 exact List.mem_of_getElem? hk
theorem CsOk.nil:CsOk []:=fun n h=>by cases h
theorem CsOk.at {cs:Cs} (h:CsOk cs) (i:Int) (n:Nd) (hn:nodeAt cs i=some n):NdLen n/\BytesOk n.f9:=h n (nodeAt_mem hn)
theorem CsOk.put {cs:Cs} (h:CsOk cs) {n:Nd} (hn:NdLen n/\BytesOk n.f9):CsOk (putC cs n):=by
 unfold putC
 split
 ·intro m hm
  rcases List.mem_or_eq_of_mem_set hm with h1|h1
  ·exact h m h1
  ·obtain rfl:=Option.some.inj h1
   exact hn
 ·intro m hm
  rcases List.mem_append.1 hm with h1|h1
  ·exact h m h1
  ·obtain rfl:m=n:=by simpa using h1
   exact hn
theorem leafNd_ok (size:Int) (l1 l2:List Int) (since:Int) (h1:l1.length<=65535) (h2:l2.length<=65535):NdLen (leafNd size l1 l2 since)/\BytesOk (leafNd size l1 l2 since).f9:=
 ⟨⟨h1,h2,Nat.zero_le _,Nat.le_trans (hashB_le _ _ _) (by decide)⟩,hashB_ok _ _ _⟩
theorem forkNd_ok (size depth:Int) (pr:List Int) (left right:Int) (nl nr:Nd) (h1:pr.length<=65535):NdLen (forkNd size depth pr left right nl nr)/\BytesOk (forkNd size depth pr left right nl nr).f9:=
 ⟨⟨Nat.zero_le _,Nat.zero_le _,Nat.le_trans (firstB_length _ _) h1,Nat.le_trans (hashB_le _ _ _) (by decide)⟩,hashB_ok _ _ _⟩
theorem forkOf_ok {cs:Cs} (size depth:Int) (pr:List Int) (left right:Int) (h : ¬forkBad cs depth pr left right):NdLen (forkOf size cs depth pr left right)/\BytesOk (forkOf size cs depth pr left right).f9:=by
 unfold forkOf
 have h1:pr.length<=65535:=by
  rcases Nat.lt_or_ge 65535 pr.length with hl|hl
  ·exact absurd (.inr (.inr (.inl hl))) h
  ·exact hl
 cases hl:nodeAt cs left with
 | none=>exact absurd (.inr (.inr (.inr (.inl hl)))) h
 | some nl=>
   cases hr:nodeAt cs right with
   | none=>exact absurd (.inr (.inr (.inr (.inr hr)))) h
   | some nr=>exact forkNd_ok _ _ _ _ _ _ _ h1
theorem rforkOf_eq (cs:Cs) (size depth:Int) (pr:List Int) (hb:BytesOk pr) (left right:Int):rforkOf size cs depth pr left right=forkOf size cs depth pr left right:=by
 unfold rforkOf forkOf
 cases hl:nodeAt cs left with
 | none=>rfl
 | some nl=>
   cases hr:nodeAt cs right with
   | none=>rfl
   | some nr=>
     simp only
     unfold rforkNd forkNd
     rw [firstB_idem pr hb depth]
structure Pr (w:World) (base p q:Nat) (size room:Int) (vc vf vl:Value) (X:Nat->Prop) (cs cs2:Cs):Prop where
 a:ArenaM w base p size room vc vf X cs
 r:RefM w base q size room vl X cs2
 apart : ∀k,OwnS p vc vf k->¬OwnQ q vl k
theorem ArenaM.sep {w:World} {base p:Nat} {size room:Int} {vc vf:Value} {X:Nat->Prop} {cs:Cs} (h:ArenaM w base p size room vc vf X cs) (k:Nat) (hk:X k):k<w.heap.size/\¬OwnS p vc vf k:=by
 obtain ⟨rows,fr,hv⟩:=h.mem
 exact hv.sep k hk
theorem ArenaM.own {w:World} {base p:Nat} {size room:Int} {vc vf:Value} {X:Nat->Prop} {cs:Cs} (h:ArenaM w base p size room vc vf X cs) (k:Nat) (hk:OwnS p vc vf k):k<w.heap.size:=by
 obtain ⟨rows,fr,hv⟩:=h.mem
 exact hv.own_lt k hk
theorem RefM.sep {w:World} {base q:Nat} {size most:Int} {vl:Value} {X:Nat->Prop} {cs:Cs} (h:RefM w base q size most vl X cs) (k:Nat) (hk:X k):k<w.heap.size/\¬OwnQ q vl k:=by
 obtain ⟨rows,hv⟩:=h.mem
 exact hv.sep k hk
theorem RefM.own {w:World} {base q:Nat} {size most:Int} {vl:Value} {X:Nat->Prop} {cs:Cs} (h:RefM w base q size most vl X cs) (k:Nat) (hk:OwnQ q vl k):k<w.heap.size:=by
 obtain ⟨rows,hv⟩:=h.mem
 exact hv.own_lt k hk
theorem Pr.below {w w1:World} {base p q:Nat} {size room:Int} {vc vf vl:Value} {X:Nat->Prop} {cs cs2:Cs} (h:Pr w base p q size room vc vf vl X cs cs2) (hb:Below w.heap.size w w1):Pr w1 base p q size room vc vf vl X cs cs2:=
 ⟨h.a.below hb,h.r.below hb,h.apart⟩
structure Step (w w':World) (base p q:Nat) (size room:Int) (vc vf vl:Value) (X X':Nat->Prop) (cs cs2:Cs):Prop where
 pr:Pr w' base p q size room vc vf vl X' cs cs2
 sub : ∀k,X k->X' k
 low:Below base w w'
 same : ∀k,X k->w'.heap[k]? = w.heap[k]?
theorem Pr.arena {w w':World} {base p q:Nat} {size room:Int} {vc vf vl:Value} {X:Nat->Prop} {cs cs1 cs2:Cs} (h:Pr w base p q size room vc vf vl X cs cs2) (hp:ArenaP w w' base p size room vc vf X cs1) : ∃vc' vf' X',Step w w' base p q size room vc' vf' vl X X' cs1 cs2:=by
 obtain ⟨vc',vf',X1,hM,g1,g2,hk,hb⟩:=hp
 have hold : ∀k,k<w.heap.size->OwnS p vc' vf' k->OwnS p vc vf k:=fun k hl ho=>(g1 k ho).elim id (fun h1=>absurd h1 (by omega))
 refine ⟨vc',vf',fun k=>X k\/X1 k,⟨⟨?_,?_,?_⟩,fun k hx=>.inl hx,hb,fun k hx=>hk.2 k (h.a.sep k hx).1 (h.a.sep k hx).2⟩⟩
 ·refine hM.step (Nat.le_refl _) (fun _ _ _=>rfl) (fun k hx=>.inr hx) (fun k hx=>?_)
  rcases hx with hx|hx
  ·have:=h.a.sep k hx
   exact ⟨Nat.lt_of_lt_of_le this.1 hk.1,fun ho=>this.2 (hold k this.1 ho)⟩
  ·exact hM.sep k hx
 ·refine h.r.step hk.1 (fun k hl ho=>hk.2 k hl ?_) (fun k hx=>.inl hx) (fun k hx=>?_)
  ·rcases ho with ho|ho
   ·exact fun hs=>h.apart k hs ho
   ·exact (h.a.sep k ho).2
  ·rcases hx with hx|hx
   ·have:=h.r.sep k hx
    exact ⟨Nat.lt_of_lt_of_le this.1 hk.1,this.2⟩
   ·refine ⟨(hM.sep k hx).1,fun ho=>?_⟩
    rcases g2 k hx with h1|h1
    ·exact (h.r.sep k h1).2 ho
    ·have:=h.r.own k ho
     omega
 ·intro k hs hq
  exact h.apart k (hold k (h.r.own k hq) hs) hq
theorem Pr.ref {w w':World} {base p q:Nat} {size room:Int} {vc vf vl:Value} {X:Nat->Prop} {cs cs1 cs2:Cs} (h:Pr w base p q size room vc vf vl X cs cs2) (hp:RefP w w' base q size room vl X cs1) : ∃vl' X',Step w w' base p q size room vc vf vl' X X' cs cs1:=by
 obtain ⟨vl',X1,hM,g1,g2,hk,hb⟩:=hp
 have hold : ∀k,k<w.heap.size->OwnQ q vl' k->OwnQ q vl k:=fun k hl ho=>(g1 k ho).elim id (fun h1=>absurd h1 (by omega))
 refine ⟨vl',fun k=>X k\/X1 k,⟨⟨?_,?_,?_⟩,fun k hx=>.inl hx,hb,fun k hx=>hk.2 k (h.r.sep k hx).1 (h.r.sep k hx).2⟩⟩
 ·refine h.a.step hk.1 (fun k hl ho=>hk.2 k hl ?_) (fun k hx=>.inl hx) (fun k hx=>?_)
  ·rcases ho with ho|ho
   ·exact fun hs=>h.apart k ho hs
   ·exact (h.r.sep k ho).2
  ·rcases hx with hx|hx
   ·have:=h.a.sep k hx
    exact ⟨Nat.lt_of_lt_of_le this.1 hk.1,this.2⟩
   ·refine ⟨(hM.sep k hx).1,fun ho=>?_⟩
    rcases g2 k hx with h1|h1
    ·exact (h.a.sep k h1).2 ho
    ·have:=h.a.own k ho
     omega
 ·refine hM.step (Nat.le_refl _) (fun _ _ _=>rfl) (fun k hx=>.inr hx) (fun k hx=>?_)
  rcases hx with hx|hx
  ·have:=h.r.sep k hx
   exact ⟨Nat.lt_of_lt_of_le this.1 hk.1,fun ho=>this.2 (hold k this.1 ho)⟩
  ·exact hM.sep k hx
 ·intro k hs hq
  exact h.apart k hs (hold k (h.a.own k hs) hq)
end Go.Proofs.YtdeneoknjeegbaaGreatDoor.P
end
section
namespace Go.Proofs.YtdeneoknjeegbaaGreatDoor.P
open Go.RowKit YtdeneoknjeegbaaGreatDoorW.PrintWords YtdeneoknjeegbaaGreatDoorW.PrintLast YtdeneoknjeegbaaGreatDoorW.PrintMore
def newBad (size room:Int):Prop:=size<1\/32<size\/room<1\/4194304<room
set_option maxRecDepth 100000 in
theorem rnew_calls (size room:Int) (w:World) (hb : ¬newBad size room):
 Calls Tryz.prog 5 #[.int .i64 size,.int .i64 room] w fun e w'=>e = .returned (.tuple #[.pointer (some ⟨w.heap.size,0,none⟩),.int .i64 0])/\QBlk w' w.heap.size size room (.slice none 0 0)/\Below w.heap.size w w':=by
 have d1:decide (size<1)=false:=decide_eq_false (fun h=>hb (.inl h))
 have d2:decide (32<size)=false:=decide_eq_false (fun h=>hb (.inr (.inl h)))
 have d3:decide (room<1)=false:=decide_eq_false (fun h=>hb (.inr (.inr (.inl h))))
 have d4:decide (4194304<room)=false:=decide_eq_false (fun h=>hb (.inr (.inr (.inr h))))
 clear hb
 go_enter Tryz.func5,Tryz.ntmps5
 go_wp2_with fail
 go_ret2
 exact ⟨rfl,heap_alloc_new w _,below_alloc (Below.refl _ _) _⟩
theorem Pr.start {w w1 w2:World} {size room:Int} (hb : ¬newBad size room) (ha:ABlk w1 w.heap.size size room (.slice none 0 0) (.slice none 0 0)) (h1:Below w.heap.size w w1) (hr:QBlk w2 w1.heap.size size room (.slice none 0 0)) (h2:Below w1.heap.size w1 w2):
 Pr w2 w.heap.size w.heap.size w1.heap.size size room (.slice none 0 0) (.slice none 0 0) (.slice none 0 0) (fun k=>k<w.heap.size) [] []:=by
 have hs:1<=size/\size<=32:=⟨by by_cases h:size<1;exact absurd (.inl h) hb;omega,by by_cases h:32<size;exact absurd (.inr (.inl h)) hb;omega⟩
 have hm:1<=room/\room<=4194304:=⟨by by_cases h:room<1;exact absurd (.inr (.inr (.inl h))) hb;omega,by by_cases h:4194304<room;exact absurd (.inr (.inr (.inr h))) hb;omega⟩
 have hlt:=ha.lt
 have hlt2:=hr.lt
 have hz:=h1.size
 refine ⟨⟨⟨[],[],⟨ha.below h2,Kd.R_nil _ _ _ _ _,Kd.R_nil _ _ _ _ _,?_,FreeOk.nil,rfl,fun i o r h=>by simp at h,fun k hk=>⟨by omega,?_⟩⟩⟩,Nat.le_refl _,hs,hm,by simp;omega⟩,⟨⟨[],⟨hr,Kd.R_nil _ _ _ _ _,rfl,fun i o r h=>by simp at h,fun k hk=>⟨by omega,?_⟩⟩⟩,hz,hs,hm,by simp;omega⟩,?_⟩
 ·intro k hk h0
  exact absurd h0 (by simp)
 ·rintro (rfl|h|h)
  ·omega
  ·simp [Value.ownBlock] at h
  ·simp [Value.ownBlock] at h
 ·rintro (rfl|h)
  ·omega
  ·simp [Value.ownBlock] at h
 ·rintro k (rfl|h|h)
  ·rintro (h|h)
   ·omega
   ·simp [Value.ownBlock] at h
  ·simp [Value.ownBlock] at h
  ·simp [Value.ownBlock] at h
end Go.Proofs.YtdeneoknjeegbaaGreatDoor.P
end
section
namespace Go.Proofs.YtdeneoknjeegbaaGreatDoor.P
open Go.RowKit YtdeneoknjeegbaaGreatDoorW.PrintWords YtdeneoknjeegbaaGreatDoorW.PrintLast YtdeneoknjeegbaaGreatDoorW.PrintMore
attribute [local go_sem] max2_int min2_int max_two min_two max_three min_three max_four min_four
def bytes_Equal.f (l0:List Int) (l1:List Int):Option (Bool):=some ((strOfNums l0).toList==(strOfNums l1).toList)
set_option maxHeartbeats 8000000 in
set_option maxRecDepth 100000 in
theorem bytes_Equal.calls (A0:Option Addr) (c0:Nat) (l0:List Int) (A1:Option Addr) (c1:Nat) (l1:List Int) (r:Bool) (w:World) (hr0:Kd.C (Kd.int .u8) w A0 l0.length l0) (hc0:l0.length<=c0) (hr1:Kd.C (Kd.int .u8) w A1 l1.length l1) (hc1:l1.length<=c1) (h:bytes_Equal.f l0 l1=some r):
 Calls Tryz.prog 46 #[.slice A0 l0.length c0,.slice A1 l1.length c1] w fun e w'=>e = .returned (.bool r)/\Drawn0 w w':=by
 have HR0:=z_ hr0
 have HC0:=z_ hc0
 clear hr0 hc0
 have HR1:=z_ hr1
 have HC1:=z_ hc1
 clear hr1 hc1
 have H:(some ((strOfNums l0).toList==(strOfNums l1).toList))=some r:=h
 clear h
 obtain rfl:=Option.some.inj H
 have hcv3:=Kd.C_string (P:=Tryz.prog) (A:=A0) (c:=c0) Tryz.underlying23 Tryz.underlying5 Tryz.underlying9 HR0.out
 have hcv4:=Kd.C_string (P:=Tryz.prog) (A:=A1) (c:=c1) Tryz.underlying23 Tryz.underlying5 Tryz.underlying9 HR1.out
 go_enter Tryz.func46,Tryz.ntmps46
 go_wp2
 go_ret
 exact ⟨by first|rfl|(simp;done)|(simp [*];done),by repeat (first|exact Drawn0.refl _|apply Drawn0.step)⟩
end Go.Proofs.YtdeneoknjeegbaaGreatDoor.P
end
section
namespace Go.Proofs.YtdeneoknjeegbaaGreatDoor.P
open Go.RowKit YtdeneoknjeegbaaGreatDoor.Pure YtdeneoknjeegbaaGreatDoorW.PrintWords YtdeneoknjeegbaaGreatDoorW.PrintLast YtdeneoknjeegbaaGreatDoorW.PrintMore
def PutOut (c:Prop) (cs:Cs) (room:Int) (n:Nd) (i er:Int) (cs':Cs):Prop:=(c/\i=0/\er=1/\cs'=cs)\/(¬c/\(usedN cs:Int)=room/\i=0/\er=4/\cs'=cs)\/(¬c/\(usedN cs:Int)≠room/\i=(lowN cs:Int)/\er=0/\cs'=putC cs n)
theorem PutOut.same {c:Prop} {cs:Cs} {room:Int} {n:Nd} {i er j f:Int} {cs1 cs2:Cs} (h:PutOut c cs room n i er cs1) (k:PutOut c cs room n j f cs2):j=i/\f=er/\cs2=cs1:=by
 rcases h with ⟨h1,rfl,rfl,rfl⟩|⟨h1,h2,rfl,rfl,rfl⟩|⟨h1,h2,rfl,rfl,rfl⟩<;>rcases k with ⟨k1,rfl,rfl,rfl⟩|⟨k1,k2,rfl,rfl,rfl⟩|⟨k1,k2,rfl,rfl,rfl⟩<;>first|exact ⟨rfl,rfl,rfl⟩|exact absurd h1 k1|exact absurd k1 h1|exact absurd h2 k2|exact absurd k2 h2
theorem PutOut.ok {c:Prop} {cs:Cs} {room:Int} {n:Nd} {i er:Int} {cs1:Cs} (h:PutOut c cs room n i er cs1) (hcs:CsOk cs) (hn : ¬c->NdLen n/\BytesOk n.f9):CsOk cs1:=by
 rcases h with ⟨h1,rfl,rfl,rfl⟩|⟨h1,h2,rfl,rfl,rfl⟩|⟨h1,h2,rfl,rfl,rfl⟩
 ·exact hcs
 ·exact hcs
 ·exact hcs.put (hn h1)
theorem PutPost.out {c:Prop} {w w':World} {base p:Nat} {size room:Int} {vc vf:Value} {X:Nat->Prop} {cs:Cs} {n:Nd} {e:Ending} (h:PutPost c w w' base p size room vc vf X cs n e) : ∃i er cs',PutOut c cs room n i er cs'/\e = .returned (.tuple #[.int .i64 i,.int .i64 er])/\ArenaP w w' base p size room vc vf X cs':=by
 by_cases hc:c
 ·exact ⟨0,1,cs,.inl ⟨hc,rfl,rfl,rfl⟩,h.bad hc⟩
 ·by_cases hf:(usedN cs:Int)=room
  ·exact ⟨0,4,cs,.inr (.inl ⟨hc,hf,rfl,rfl,rfl⟩),h.full hc hf⟩
  ·exact ⟨_,0,_,.inr (.inr ⟨hc,hf,rfl,rfl,rfl⟩),h.ok hc hf⟩
theorem RPost.out {c:Prop} {w w':World} {base q:Nat} {size room:Int} {vl:Value} {X:Nat->Prop} {cs:Cs} {n:Nd} {e:Ending} (h:RPost c w w' base q size room vl X cs n e) : ∃i er cs',PutOut c cs room n i er cs'/\e = .returned (.tuple #[.int .i64 i,.int .i64 er])/\RefP w w' base q size room vl X cs':=by
 by_cases hc:c
 ·exact ⟨0,1,cs,.inl ⟨hc,rfl,rfl,rfl⟩,h.bad hc⟩
 ·by_cases hf:(usedN cs:Int)=room
  ·exact ⟨0,4,cs,.inr (.inl ⟨hc,hf,rfl,rfl,rfl⟩),h.full hc hf⟩
  ·exact ⟨_,0,_,.inr (.inr ⟨hc,hf,rfl,rfl,rfl⟩),h.ok hc hf⟩
theorem Step.bx {w w':World} {base p q:Nat} {size room:Int} {vc vf vl:Value} {X X':Nat->Prop} {cs cs2:Cs} (h:Step w w' base p q size room vc vf vl X X' cs cs2) {v:Value} {l:List Int} (hb:BX w X v l):BX w' X' v l:=
 Kd.V_mono (Kd.V_step hb (fun k hk _=>h.same k hk)) h.sub
theorem Step.ints {w w':World} {base p q:Nat} {size room:Int} {vc vf vl:Value} {X X':Nat->Prop} {cs cs2:Cs} (h:Step w w' base p q size room vc vf vl X X' cs cs2) {v:Value} {l:List Int} (hb:Kd.V (Kd.int .i64) 3 w 0 X v l):Kd.V (Kd.int .i64) 3 w' 0 X' v l:=
 Kd.V_mono (Kd.V_step hb (fun k hk _=>h.same k hk)) h.sub
theorem Step.trans {w w1 w2:World} {base p q:Nat} {size room:Int} {vc vf vl vc' vf' vl':Value} {X X1 X2:Nat->Prop} {cs cs2 cs3 cs4:Cs} (h:Step w w1 base p q size room vc vf vl X X1 cs cs2) (k:Step w1 w2 base p q size room vc' vf' vl' X1 X2 cs3 cs4):Step w w2 base p q size room vc' vf' vl' X X2 cs3 cs4:=
 ⟨k.pr,fun i hi=>k.sub i (h.sub i hi),h.low.trans k.low,fun i hi=>(k.same i (h.sub i hi)).trans (h.same i hi)⟩
theorem Step.below {w w1 w2:World} {base p q:Nat} {size room:Int} {vc vf vl:Value} {X X':Nat->Prop} {cs cs2:Cs} (h:Step w w1 base p q size room vc vf vl X X' cs cs2) (hb:Below w1.heap.size w1 w2):Step w w2 base p q size room vc vf vl X X' cs cs2:=
 ⟨h.pr.below hb,h.sub,h.low.trans (hb.mono h.pr.a.base_le.1),fun k hk=>(hb.block k (h.pr.a.sep k (h.sub k hk)).1).trans (h.same k hk)⟩
theorem Step.roots {w w':World} {base p q:Nat} {size room:Int} {vc vf vl:Value} {X X':Nat->Prop} {cs cs2:Cs} (h:Step w w' base p q size room vc vf vl X X' cs cs2) {v:Value} {l:List Int} (hb:Kd.V (Kd.int .i64) 3 w 0 X v l):Kd.V (Kd.int .i64) 3 w' 0 (fun k=>k<w'.heap.size) v l:=
 Kd.V_mono (h.ints hb) (fun k hk=>(h.pr.a.sep k hk).1)
theorem infoInt:(Tryz.prog.info? 3).map (fun i=>(i.zero,i.size,i.bytes))=some (some (.int .i64 0),1,8):=by kernel_rfl
theorem R_int_at {w:World} {base:Nat} {ok:Nat->Prop} {A:Option Addr} {n c:Nat} {l:List Int} (h:Kd.R (Kd.int .i64) 3 w base ok (.slice A n c) l) (i:Nat) (hi:i<l.length) : ∃g,A=some ⟨g,0,none⟩/\w.cell? ⟨g,i,none⟩=some (.int .i64 l[i]):=by
 have hrd:=Kd.R_reads' h
 obtain ⟨ad,cc,e1,hl,hK,hc⟩:=Kd.C_get hrd.2.2 (0:Int) (i:Int) (by omega) (by omega)
 subst e1
 obtain ⟨g,rfl⟩:=Kd.R_head h
 refine ⟨g,rfl,?_⟩
 have h1:cc = [.int .i64 l[i]]:=by
  have h2:cc = [.int .i64 (l.getD (i:Int).toNat 0)]:=hK
  rw [h2,Int.toNat_natCast,List.getD_eq_getElem?_getD,List.getElem?_eq_getElem hi]
  rfl
 have:=hc 0 (.int .i64 l[i]) (by rw [h1];rfl)
 rw [Int.toNat_natCast,add_plain] at this
 have hz:i*(Kd.int .i64).sz+0=i:=by show i*1+0=i;omega
 rw [hz] at this
 exact this
theorem V_of_C {k:IntKind} (e:Nat) {w:World} {A:Option Addr} {c:Nat} {l:List Int} (h:Kd.C (Kd.int k) w A l.length l) (hc:l.length<=c):Kd.V (Kd.int k) e w 0 (fun b=>b<w.heap.size) (.slice A l.length c) l:=Kd.V_mk hc (fun W' hW=>by
 have hsz:w.heap.size<=W'.heap.size:=by
  rcases Nat.eq_zero_or_pos w.heap.size with h0|h0
  ·omega
  ·have:=heap_lt (hW (w.heap.size-1) (by omega) (by omega)) (by omega)
   omega
 have hb:Below w.heap.size w { W' with os:=w.os,tape:=w.tape,output:=w.output }:=⟨rfl,rfl,rfl,hsz,fun k hk=>hW k hk hk⟩
 have hx:=Kd.C_below h hb
 exact hx)
theorem equal_same (l:List Int):bytes_Equal.f l l=some true:=by
 unfold bytes_Equal.f
 rw [beq_self_eq_true]
theorem NodeV.all {w':World} {Y:Nat->Prop} {o:Option Nd} {e:Ending} (h:NodeV w' Y o e) : ∃n b,n=o.getD z59/\b=o.isSome/\∃(A1 A2 A5 A9:Option Addr) (c1 c2 c5 c9:Nat),e = .returned (.tuple #[.agg #[.bool n.f0,.slice A1 n.f1.length c1,.slice A2 n.f2.length c2,.int .i64 n.f3,.int .i64 n.f4,.slice A5 n.f5.length c5,.int .i64 n.f6,.int .i64 n.f7,.int .i64 n.f8,.slice A9 n.f9.length c9],.bool b])/\BX w' Y (.slice A1 n.f1.length c1) n.f1/\BX w' Y (.slice A2 n.f2.length c2) n.f2/\BX w' Y (.slice A5 n.f5.length c5) n.f5/\BX w' Y (.slice A9 n.f9.length c9) n.f9:=by
 cases o with
 | none=>exact ⟨_,_,rfl,rfl,none,none,none,none,0,0,0,0,h,Kd.V_nil _ _ _ _ _,Kd.V_nil _ _ _ _ _,Kd.V_nil _ _ _ _ _,Kd.V_nil _ _ _ _ _⟩
 | some n=>exact ⟨n,true,rfl,rfl,h⟩
end Go.Proofs.YtdeneoknjeegbaaGreatDoor.P
end
section
namespace Go.Proofs
open Go.Shelf
def Tryz.lays126_ren:Go.Shelf.Ren:=⟨fun|126=>85|n=>n,fun|5=>5|3=>3|9=>9|n=>n,fun|n=>n⟩
def Tryz.lays131_ren:Go.Shelf.Ren:=⟨fun|131=>77|126=>85|n=>n,fun|5=>5|3=>3|9=>9|n=>n,fun|n=>n⟩
theorem Tryz.lays131:Go.Proofs.Lays.n131 Tryz.prog Tryz.lays131_ren:={
 mixed:=by kernel_rfl
 f126:=Tryz.func85.trans (congrArg some (by kernel_rfl))
 f131:=Tryz.func77.trans (congrArg some (by kernel_rfl))
 t3:=Tryz.underlying3
 a3:=Tryz.isAgg3
 z3:=Tryz.sizeOf3
 v3:=Tryz.zeroValue3
 t5:=Tryz.underlying5
 a5:=Tryz.isAgg5
 z5:=Tryz.sizeOf5
 v5:=Tryz.zeroValue5
 t9:=Tryz.underlying9
 a9:=Tryz.isAgg9
 z9:=Tryz.sizeOf9
 v9:=Tryz.zeroValue9 }
theorem Tryz.bits_LeadingZeros8 (x:Int) (w:World) (h0:0<=x) (h1:x<=255):
 Calls Tryz.prog 77 #[.int .u8 x] w fun e w'=>e = .returned (.int .i64 (8-(Lib.bitLen x.toNat:Int)))/\w'=w:=Any.bits_LeadingZeros8 Tryz.lays131 x w h0 h1
end Go.Proofs
end
section
namespace Go.Proofs.YtdeneoknjeegbaaGreatDoor.P
open Go.RowKit YtdeneoknjeegbaaGreatDoorW.PrintWords YtdeneoknjeegbaaGreatDoorW.PrintLast YtdeneoknjeegbaaGreatDoorW.PrintMore
def bits_LeadingZeros8.f (a0:Int):Option Int:=if 0<=a0 then (if a0<=255 then some (8-(Lib.bitLen a0.toNat:Int)) else none) else none
theorem bits_LeadingZeros8.calls (a0:Int) (r:Int) (w:World) (h:bits_LeadingZeros8.f a0=some r):
 Calls Tryz.prog 77 #[.int .u8 a0] w fun e w'=>e = .returned (.int .i64 r)/\Drawn0 w w':=by
 unfold bits_LeadingZeros8.f at h
 split at h
 case isFalse=>cases h
 split at h
 case isFalse=>cases h
 case isTrue h0 h1=>
  obtain rfl:=Option.some.inj h
  refine (Tryz.bits_LeadingZeros8 a0 w h0 h1).mono ?_
  rintro e w' ⟨rfl,rfl⟩
  exact ⟨rfl,Drawn0.refl _⟩
end Go.Proofs.YtdeneoknjeegbaaGreatDoor.P
end
section
namespace Go.Proofs.YtdeneoknjeegbaaGreatDoor.P
open Go.RowKit YtdeneoknjeegbaaGreatDoorW.PrintWords YtdeneoknjeegbaaGreatDoorW.PrintLast YtdeneoknjeegbaaGreatDoorW.PrintMore
def bcommon:List Int->List Int->Int
 | x :: xs,y :: ys=>if x=y then 8+bcommon xs ys else 8-(Lib.bitLen (Go.bits .xor .u8 x y).toNat:Int)
 | _,_=>0
theorem xor_range (x y:Int):0<=Go.bits .xor .u8 x y/\Go.bits .xor .u8 x y<=255:=by
 unfold Go.bits
 rw [IntKind.wrap_u8]
 omega
theorem bitLen_le8 : ∀n:Fin 256,Lib.bitLen n.val<=8:=by decide +kernel
theorem bcommon_nil (l:List Int):bcommon l []=0:=by cases l<;>rfl
theorem bcommon_end {a b:List Int} {k:Nat} (h:k=min a.length b.length):bcommon (a.drop k) (b.drop k)=0:=by
 rcases Nat.le_total a.length b.length with hl|hl
 ·rw [List.drop_eq_nil_of_le (show a.length<=k by omega)]
  rfl
 ·rw [List.drop_eq_nil_of_le (show b.length<=k by omega)]
  exact bcommon_nil _
theorem bcommon_step {a b:List Int} {k:Nat} (ha:k<a.length) (hb:k<b.length):bcommon (a.drop k) (b.drop k)=if rd a (k:Int)=rd b (k:Int) then 8+bcommon (a.drop (k+1)) (b.drop (k+1)) else 8-(Lib.bitLen (Go.bits .xor .u8 (rd a (k:Int)) (rd b (k:Int))).toNat:Int):=by
 have h1:rd a (k:Int)=a[k]:=by unfold rd;rw [Int.toNat_natCast,List.getD_eq_getElem?_getD,List.getElem?_eq_getElem ha];rfl
 have h2:rd b (k:Int)=b[k]:=by unfold rd;rw [Int.toNat_natCast,List.getD_eq_getElem?_getD,List.getElem?_eq_getElem hb];rfl
 rw [h1,h2,List.drop_eq_getElem_cons ha,List.drop_eq_getElem_cons hb]
 rfl
attribute [local go_sem] max2_int min2_int max_two min_two
theorem cut_meas {k n:Nat} (h:k<n) (hw:wrap64 ((k:Int)+1)=((k+1:Nat):Int)):n-(intOf (.int .i64 (wrap64 ((k:Int)+1)))).toNat<n-(intOf (.int .i64 (k:Int))).toNat:=by
 rw [hw]
 simp only [intOf,Int.toNat_natCast]
 omega
set_option maxHeartbeats 4000000 in
set_option maxRecDepth 100000 in
theorem common_calls (A0 A1:Option Addr) (c0 c1:Nat) (l0 l1:List Int) (w:World) (h0:Kd.C (Kd.int .u8) w A0 l0.length l0) (hc0:l0.length<=c0) (h1:Kd.C (Kd.int .u8) w A1 l1.length l1) (hc1:l1.length<=c1) (hl:l0.length<=1000000000000):
 Calls Tryz.prog 59 #[.slice A0 l0.length c0,.slice A1 l1.length c1] w fun e w'=>e = .returned (.int .i64 (bcommon l0 l1))/\Below w.heap.size w w':=by
 have H0:=z_ h0
 have H1:=z_ h1
 obtain ⟨n,hn⟩ : ∃n,n=min l0.length l1.length:=⟨_,rfl⟩
 have e1:(if l1.length<l0.length then (l1.length:Int) else (l0.length:Int))=(n:Int):=by split<;>omega
 have e2:(if (l1.length:Int)<(l0.length:Int) then (l1.length:Int) else (l0.length:Int))=(n:Int):=by split<;>omega
 obtain ⟨i0,hi0,hzz⟩:=Option.map_eq_some_iff.1 (show (Tryz.prog.info? 5).map (fun i=>(i.zero,i.size,i.bytes))=some (some (.int .u8 0),1,1) by kernel_rfl)
 simp only [Prod.mk.injEq] at hzz
 have hlt:(l0.take n).length=n:=by rw [List.length_take];omega
 have hcut : ∀W:World,(Instr.slice 23 (.slice A0 l0.length c0) none (some (.int .i64 (n:Int))) none).run Tryz.prog W = .ok (.slice A0 n c0) W:=fun W=>by
  have:=(print_take_of (P:=Tryz.prog) (Value.int .u8) 0 23 5 .i64 Tryz.underlying23 hi0 hzz.2.1 A0 c0 l0 (n:Int) (by omega) (by omega) hc0).1 W
  rw [Int.toNat_natCast,hlt] at this
  exact this
 have HN:=z_ (And.intro hn hl)
 have HB:=z_ (Below.refl w.heap.size w)
 clear h0 h1 hc0 hc1 hl hn hi0 hzz hlt i0
 go_enter Tryz.func59,Tryz.ntmps59
 go_wp2_with fail
 go_loopw [17] (fun v17 wr=>∃k:Nat,k<=n/\v17 = .int .i64 (k:Int)/\Aside0 (bcommon l0 l1=8*(k:Int)+bcommon (l0.drop k) (l1.drop k))/\Aside0 (Below w.heap.size w wr)) (fun v17 _=>n-(intOf v17).toNat)
 case atStart=>exact ⟨0,Nat.zero_le _,rfl,⟨by simp⟩,HB⟩
 case round=>
  clear HB e1 e2
  obtain ⟨k,hk,rfl,HE,HB⟩:=hrel
  by_cases hlt:k<n
  ·have HK:=z_ hlt
   have hd:decide ((k:Int)<(n:Int))=true:=decide_eq_true (by omega)
   have hd2:decide (k<n)=true:=decide_eq_true hlt
   have hd3:(k:Int)<(n:Int):=by omega
   have ha:k<l0.length:=by have:=HN.out.1;omega
   have hb:k<l1.length:=by have:=HN.out.1;omega
   have hb3:(k:Int)<(l1.length:Int):=by omega
   obtain ⟨a0,rfl,k0⟩:=Kd.at_int H0.out (k:Int) (by omega) (by omega)
   obtain ⟨a1,rfl,k1⟩:=Kd.at_int H1.out (k:Int) (by omega) (by omega)
   have hst:=bcommon_step ha hb
   obtain ⟨x,hx⟩ : ∃x,x=rd l0 (k:Int):=⟨_,rfl⟩
   obtain ⟨y,hy⟩ : ∃y,y=rd l1 (k:Int):=⟨_,rfl⟩
   rw [<-hx] at k0 hst
   rw [<-hy] at k1 hst
   replace k0:=(HB.out.cell (World.block_lt_of_cell? w _ k0)).trans k0
   replace k1:=(HB.out.cell (World.block_lt_of_cell? w _ k1)).trans k1
   simp only [Int.toNat_natCast] at k0 k1
   clear hx hy hk ha
   by_cases hxy:x=y
   ·have hne:(x !=y)=false:=by rw [hxy];simp
    rw [if_pos hxy] at hst
    have HST:=z_ hst
    clear hxy hst
    go_wp2_with fail
    have hkn:=HK.out
    have hnn:=HN.out
    have hw1:wrap64 ((k:Int)+1)=((k+1:Nat):Int):=by rw [wrap64_id _ (by omega)];omega
    have hmeas:=cut_meas (k:=k) (n:=n) HK.out hw1
    have hE:bcommon l0 l1=8*(k:Int)+(8+bcommon (l0.drop (k+1)) (l1.drop (k+1))):=by rw [HE.out,HST.out]
    go_roundw
    case measure=>exact hmeas
    case rel=>exact ⟨k+1,HK.out,by rw [hw1],⟨by rw [hE];omega⟩,HB⟩
   ·have hne:(x !=y)=true:=by simpa using hxy
    rw [if_neg hxy] at hst
    have HST:=z_ hst
    clear hxy hst
    obtain ⟨z,hz⟩ : ∃z,Go.bits .xor .u8 x y=z:=⟨_,rfl⟩
    have HZ:=z_ (show 0<=z/\z<=255 from hz▸xor_range x y)
    rw [hz] at HST
    have hzl:=bitLen_le8 ⟨z.toNat,by have:=HZ.out;omega⟩
    have hkn:=HK.out
    have hnn:=HN.out
    have hw8:wrap64 (8*(k:Int))=8*(k:Int):=wrap64_id _ (by omega)
    have hw9:wrap64 (8*(k:Int)+(8-(Lib.bitLen z.toNat:Int)))=8*(k:Int)+(8-(Lib.bitLen z.toNat:Int)):=wrap64_id _ (by simp only at hzl;omega)
    have HW9:=z_ hw9
    clear hzl hkn hnn hw9
    go_wp2_with fail
    refine (bits_LeadingZeros8.calls z (8-(Lib.bitLen z.toNat:Int)) _ (by unfold bits_LeadingZeros8.f;rw [if_pos HZ.out.1,if_pos HZ.out.2])).mono ?_
    rintro e w' ⟨rfl,hdr⟩
    have HBE:=z_ (below_step HB.out hdr.below)
    clear hdr
    have hw9:=HW9.out
    go_wp2_with fail
    go_ret
    exact ⟨by show Ending.returned (.int .i64 (wrap64 (8*(k:Int)+(8-(Lib.bitLen z.toNat:Int)))))=_;rw [HW9.out,HE.out,HST.out],HBE.out⟩
  ·obtain rfl:k=n:=by omega
   have hd:decide ((k:Int)<(k:Int))=false:=decide_eq_false (by omega)
   have hd2:decide (k<k)=false:=decide_eq_false (by omega)
   have HKE:=z_ (bcommon_end (a:=l0) (b:=l1) HN.out.1)
   have HW8:=z_ (wrap64_id (8*(k:Int)) (by have:=HN.out;omega))
   clear hk hlt
   go_wp2_with fail
   go_ret
   exact ⟨by show Ending.returned (.int .i64 (wrap64 (8*(k:Int))))=_;rw [HW8.out,HE.out,HKE.out,Int.add_zero],HB.out⟩
def bits_Common.f (l0 l1:List Int):Option Int:=if l0.length<=1000000000000 then some (bcommon l0 l1) else none
theorem bits_Common.calls (A0:Option Addr) (c0:Nat) (l0:List Int) (A1:Option Addr) (c1:Nat) (l1:List Int) (r:Int) (w:World) (hr0:Kd.C (Kd.int .u8) w A0 l0.length l0) (hc0:l0.length<=c0) (hr1:Kd.C (Kd.int .u8) w A1 l1.length l1) (hc1:l1.length<=c1) (h:bits_Common.f l0 l1=some r):
 Calls Tryz.prog 59 #[.slice A0 l0.length c0,.slice A1 l1.length c1] w fun e w'=>e = .returned (.int .i64 r)/\Below w.heap.size w w':=by
 unfold bits_Common.f at h
 split at h
 case isFalse=>cases h
 case isTrue hl=>
  obtain rfl:=Option.some.inj h
  exact common_calls A0 A1 c0 c1 l0 l1 w hr0 hc0 hr1 hc1 hl
end Go.Proofs.YtdeneoknjeegbaaGreatDoor.P
end
section
namespace Go.Proofs.YtdeneoknjeegbaaGreatDoor.P
open Go.RowKit YtdeneoknjeegbaaGreatDoorW.PrintWords YtdeneoknjeegbaaGreatDoorW.PrintLast YtdeneoknjeegbaaGreatDoorW.PrintMore
def keyB (l:List Int):List Int:=((min l.length 255:Nat):Int) :: l.take 255
theorem litB_R {w:World} (base:Nat) (hb:base<=w.heap.size) (x:Int):Kd.R (Kd.int .u8) 5 (w.alloc (.cells #[.int .u8 x] 5)) base (fun _=>True) (.slice (some ⟨w.heap.size,0,none⟩) 1 1) [x]:=
 ⟨fun _ _=>trivial,[.int .u8 x],by
  have h2:=World.ownsRow_lit (base:=base) (e:=5) (size:=1) w #[.int .u8 x] 1 hb (by decide) (by rfl)
  exact (show (w.alloc (.cells #[.int .u8 x] 5)).ownsRow base 5 1 (.slice (some ⟨w.heap.size,0,none⟩) 1 1) 1 [.int .u8 x] from by simpa using h2),Kd.reps_scalar [x]⟩
attribute [local go_sem] max2_int min2_int max_two min_two
theorem take255 (l:List Int):l.take (min l.length 255)=l.take 255:=by
 rcases Nat.le_total l.length 255 with h|h
 ·rw [Nat.min_eq_left h,List.take_length,List.take_of_length_le h]
 ·rw [Nat.min_eq_right h]
set_option maxHeartbeats 4000000 in
set_option maxRecDepth 100000 in
theorem rkey_calls (A0:Option Addr) (c0:Nat) (l0:List Int) (w:World) (h0:Kd.C (Kd.int .u8) w A0 l0.length l0) (hc0:l0.length<=c0):
 Calls Tryz.prog 24 #[.slice A0 l0.length c0] w fun e w'=>∃v0_:Value,e = .returned v0_/\Kd.R (Kd.int .u8) 5 w' w.heap.size (fun _=>True) v0_ (keyB l0)/\Below w.heap.size w w':=by
 have H0:=z_ h0
 obtain ⟨n,hn⟩ : ∃n,n=min l0.length 255:=⟨_,rfl⟩
 have e1:(if 255<l0.length then (255:Int) else (l0.length:Int))=(n:Int):=by split<;>omega
 have e2:(if 255<(l0.length:Int) then (255:Int) else (l0.length:Int))=(n:Int):=by split<;>omega
 have e3:IntKind.u8.wrap (n:Int)=(n:Int):=by rw [IntKind.wrap_u8];omega
 obtain ⟨i0,hi0,hzz⟩:=Option.map_eq_some_iff.1 (show (Tryz.prog.info? 5).map (fun i=>(i.zero,i.size,i.bytes))=some (some (.int .u8 0),1,1) by kernel_rfl)
 simp only [Prod.mk.injEq] at hzz
 have hlt:(l0.take n).length=n:=by rw [List.length_take];omega
 have hcut : ∀W:World,(Instr.slice 23 (.slice A0 l0.length c0) none (some (.int .i64 (n:Int))) none).run Tryz.prog W = .ok (.slice A0 n c0) W:=fun W=>by
  have:=(print_take_of (P:=Tryz.prog) (Value.int .u8) 0 23 5 .i64 Tryz.underlying23 hi0 hzz.2.1 A0 c0 l0 (n:Int) (by omega) (by omega) hc0).1 W
  rw [Int.toNat_natCast,hlt] at this
  exact this
 have HT:=z_ (show Kd.C (Kd.int .u8) w A0 n (l0.take n) from by have:=Kd.C_take h0 (m:=n) (by omega);rwa [hlt] at this)
 have HN:=z_ (And.intro hn hlt)
 clear h0 hc0 hn hi0 hzz hlt i0
 go_enter Tryz.func24,Tryz.ntmps24
 go_wp2_with ((at_builtin;go_must (refine Kd.R_append_rows (Kd.int .u8) (w0:=w) w.heap.size rfl (.tmp 9) (.tmp 12) 23 5 (.int .u8 0) 1 rfl Tryz.underlying23 (by kernel_rfl) rfl (by decide) (by omega) (.slice (some ⟨w.heap.size,0,none⟩) 1 1) [(n:Int)] (l0.take n) A0 n c0 (fun _=>True) (fun _=>False) rfl rfl ?aO ?aR (fun _ _ h=>h) (fun _ h=>h.elim) ?aF ?aB ?aS ?aL ?_;(case aO=>exact litB_R w.heap.size (Nat.le_refl _) _);(case aR=>exact Kd.C_below HT.out (below_alloc (Below.refl _ _) _));(case aF=>exact (fun _ _=>trivial));(case aB=>exact below_alloc (Below.refl _ _) _);(case aS=>simp);(case aL=>(have:=HN.out.1;simp;omega));intro v1 w1 hR1 hb1 hg1 hat1;obtain ⟨A',c',e'⟩:=Kd.R_slice hR1;subst e';obtain ⟨m1,hm1⟩ : ∃m,m=([(n:Int)]++l0.take n).length:=⟨_,rfl⟩;rw [<-hm1] at hR1;rw [<-hm1];have HR1:=z_ hR1;have HB1:=z_ hb1;clear hm1 hR1 hb1 hg1 hat1)))
 go_ret
 have he : [(n:Int)]++l0.take n=keyB l0:=by unfold keyB;rw [HN.out.1,take255];rfl
 exact ⟨_,rfl,by rw [<-he];exact HR1.out,HB1.out⟩
end Go.Proofs.YtdeneoknjeegbaaGreatDoor.P
end
section
namespace Go.Proofs.YtdeneoknjeegbaaGreatDoor.P
open Go.RowKit YtdeneoknjeegbaaGreatDoorW.PrintWords YtdeneoknjeegbaaGreatDoorW.PrintLast YtdeneoknjeegbaaGreatDoorW.PrintMore
theorem infoB:(Tryz.prog.info? 5).map (fun i=>(i.zero,i.size,i.bytes))=some (some (.int .u8 0),1,1):=by kernel_rfl
theorem cut0_run (A:Option Addr) (n c:Nat) (h:n<=c) (W:World):(Instr.slice 23 (.slice A n c) none (some (.int .i64 0)) none).run Tryz.prog W = .ok (.slice A 0 c) W:=by
 obtain ⟨i0,hi0,hzz⟩:=Option.map_eq_some_iff.1 infoB
 simp only [Prod.mk.injEq] at hzz
 have:=(print_take_of (P:=Tryz.prog) (Value.int .u8) 0 23 5 .i64 Tryz.underlying23 hi0 hzz.2.1 A c (List.replicate n 0) (0:Int) (by omega) (by simp) (by simpa using h)).1 W
 simpa using this
set_option maxHeartbeats 4000000 in
set_option maxRecDepth 100000 in
theorem grow_calls (n:Int) (w:World) (h1:1<=n) (h2:n<=1000000000000):
 Calls Tryz.prog 74 #[.slice none 0 0,.int .i64 n] w fun e w'=>∃v0_:Value,e = .returned v0_/\Kd.R (Kd.int .u8) 5 w' w.heap.size (fun _=>True) v0_ []/\Below w.heap.size w w':=by
 have d1:decide (n<0)=false:=decide_eq_false (by omega)
 have d2:decide (0<n)=true:=decide_eq_true (by omega)
 have hw:wrap64 n=n:=wrap64_id _ (by omega)
 have hc0 : ∀W:World,(Instr.slice 23 (.slice none 0 0) none (some (.int .i64 0)) none).run Tryz.prog W = .ok (.slice none 0 0) W:=fun W=>cut0_run none 0 0 (Nat.le_refl _) W
 have HN:=z_ (And.intro h1 h2)
 clear h1 h2
 go_enter Tryz.func74,Tryz.ntmps74
 go_wp2_with ((at_builtin;go_must (refine Kd.R_append_zeros (Kd.int .u8) (w0:=w) w.heap.size rfl (.tmp 20) (.tmp 21) 23 3 5 (.int .u8 0) 1 rfl Tryz.underlying23 Tryz.underlying3 infoB rfl (by decide) (by omega) (.slice none 0 0) [] (0:Int) n (fun _=>True) rfl (congrArg (Value.int .i64) hw) ?aZ ?aF ?aO ?aN ?aB ?aS ?aL ?_;(case aZ=>rfl);(case aF=>exact (fun _ _=>trivial));(case aO=>exact Kd.R_nil _ _ _ _ _);(case aN=>(have:=HN.out;omega));(case aB=>exact Below.refl _ _);(case aS=>exact Nat.le_refl _);(case aL=>(have:=HN.out;simp;omega));intro v1 w1 hR1 hb1 hg1 hat1;obtain ⟨A',c',e'⟩:=Kd.R_slice hR1;subst e';obtain ⟨m1,hm1⟩ : ∃m,m=([]++List.replicate n.toNat (0:Int)).length:=⟨_,rfl⟩;rw [<-hm1] at hR1;rw [<-hm1];have hmc:=(Kd.R_reads' hR1).2.1;have hcut : ∀W:World,(Instr.slice 23 (.slice A' m1 c') none (some (.int .i64 0)) none).run Tryz.prog W = .ok (.slice A' 0 c') W:=(fun W=>cut0_run A' m1 c' hmc W);have HR1:=z_ hR1;have HB1:=z_ hb1;clear hm1 hR1 hb1 hg1 hat1 hmc)))
 go_ret
 exact ⟨_,rfl,Kd.R_take HR1.out (m:=0) (Nat.zero_le _),HB1.out⟩
def Two (w:World) (g:Nat) (v1 v2:Value):Prop:=w.heap[g]? = some (.cells [v1,v2].toArray 23 (0,0))
theorem Two.below {w w1:World} {g:Nat} {v1 v2:Value} (h:Two w g v1 v2) (hb:Below w.heap.size w w1):Two w1 g v1 v2:=blk_below h hb
theorem Two.cells {w:World} {g:Nat} {v1 v2:Value} (h:Two w g v1 v2):w.cell? ⟨g,0,none⟩=some v1/\w.cell? ⟨g,1,none⟩=some v2:=by
 have c0:=blk_cell h 0
 have c1:=blk_cell h 1
 simp at c0 c1
 exact ⟨c0,c1⟩
set_option maxHeartbeats 8000000 in
set_option maxRecDepth 100000 in
theorem concat2_calls {w:World} (g:Nat) (A1 A2:Option Addr) (c1 c2:Nat) (l1 l2:List Int) (hg:Two w g (.slice A1 l1.length c1) (.slice A2 l2.length c2)) (h1:Kd.C (Kd.int .u8) w A1 l1.length l1) (h2:Kd.C (Kd.int .u8) w A2 l2.length l2)
 (hl1:1<=l1.length) (hl:l1.length+l2.length<=100000000000):
 Calls Tryz.prog 56 #[.slice (some ⟨g,0,none⟩) 2 2] w fun e w'=>∃v0_:Value,e = .returned v0_/\Kd.R (Kd.int .u8) 5 w' w.heap.size (fun _=>True) v0_ (l1++l2)/\Below w.heap.size w w':=by
 have HG:=z_ hg
 have H1:=z_ h1
 have H2:=z_ h2
 obtain ⟨n1,hn1⟩ : ∃n1,n1=l1.length:=⟨_,rfl⟩
 obtain ⟨n2,hn2⟩ : ∃n2,n2=l2.length:=⟨_,rfl⟩
 have HN:=z_ (show n1=l1.length/\n2=l2.length/\1<=n1/\n1+n2<=100000000000 from ⟨hn1,hn2,by omega,by omega⟩)
 rw [<-hn1,<-hn2] at hg
 have HG:=z_ hg
 clear hg h1 h2 hl1 hl hn1 hn2
 go_enter Tryz.func56,Tryz.ntmps56
 go_wp2_with fail
 go_loopw [3,11] (fun v3 v11 wr=>∃k:Nat,k<=2/\v11 = .int .i64 (k:Int)/\v3 = .int .i64 (if k=0 then 0 else if k=1 then (n1:Int) else (n1:Int)+(n2:Int))/\Aside0 (Below w.heap.size w wr)) (fun _ v11 _=>2-(intOf v11).toNat)
 case atStart=>exact ⟨0,by omega,rfl,rfl,⟨Below.refl _ _⟩⟩
 case round=>
  obtain ⟨k,hk,rfl,rfl,HB⟩:=hrel
  obtain ⟨q0,q1⟩:=(HG.out.below HB.out).cells
  have hnn:=HN.out
  have hw1:wrap64 (0+(n1:Int))=(n1:Int):=by rw [wrap64_id _ (by omega)];omega
  have hw2:wrap64 ((n1:Int)+(n2:Int))=(n1:Int)+(n2:Int):=by rw [wrap64_id _ (by omega)]
  have hw3:wrap64 ((n1:Int))=(n1:Int):=by rw [wrap64_id _ (by omega)]
  have d1:decide ((n1:Int)<0)=false:=decide_eq_false (by omega)
  have d2:decide ((n1:Int)+(n2:Int)<0)=false:=decide_eq_false (by omega)
  have HW:=z_ hw2
  clear hnn
  obtain rfl|rfl|rfl:k=0\/k=1\/k=2:=by omega
  ·go_wp2_with fail
   exact ⟨⟨1,by omega,rfl,by rw [hw3];rfl,HB⟩,by simp [intOf]⟩
  ·go_wp2_with fail
   exact ⟨⟨2,by omega,rfl,by rw [hw2];rfl,HB⟩,by simp [intOf]⟩
  ·clear hk q0 q1
   go_wp2_with fail
   refine (grow_calls ((n1:Int)+(n2:Int)) wr (by have:=HN.out;omega) (by have:=HN.out;omega)).mono ?_
   rintro e w2 ⟨v,rfl,hR,hb⟩
   obtain ⟨A,c,rfl⟩:=Kd.R_slice hR
   have HB2:=z_ (below_step HB.out hb)
   have HR2:=z_ (Kd.R_lower hR HB.out.size)
   clear hR hb HB hw1 hw2 hw3 d1 d2
   go_wp2_with fail
   go_loopw [6,27] (fun v6 v27 wq=>∃(k:Nat) (A:Option Addr) (n c:Nat),k<=2/\v27 = .int .i64 (k:Int)/\v6 = .slice A n c/\Aside0 (Kd.R (Kd.int .u8) 5 wq w.heap.size (fun _=>True) (.slice A n c) (if k=0 then [] else if k=1 then l1 else l1++l2))/\Aside0 (Below w.heap.size w wq)) (fun _ v27 _=>2-(intOf v27).toNat)
   case atStart=>exact ⟨0,A,0,c,by omega,rfl,rfl,HR2,HB2⟩
   case round=>
    clear HR2 HB2
    obtain ⟨k,A,n,c,hk,rfl,rfl,HR,HB⟩:=hrel
    obtain ⟨q0,q1⟩:=(HG.out.below HB.out).cells
    obtain rfl|rfl|rfl:k=0\/k=1\/k=2:=by omega
    ·replace HR:=z_ (show Kd.R (Kd.int .u8) 5 _ w.heap.size (fun _=>True) (.slice A n c) ([]:List Int) from HR.out)
     go_wp2_with ((at_builtin;go_must (refine Kd.R_append_rows (Kd.int .u8) (w0:=w) w.heap.size rfl (.tmp 31) (.tmp 32) 23 5 (.int .u8 0) 1 rfl Tryz.underlying23 infoB rfl (by decide) (by omega) (.slice A n c) ([]:List Int) l1 A1 n1 c1 (fun _=>True) (fun _=>False) rfl rfl ?aO ?aR (fun _ _ h=>h) (fun _ h=>h.elim) ?aF ?aB ?aS ?aL ?_;(case aO=>exact HR.out);(case aR=>exact (by have:=Kd.C_below H1.out HB.out;rw [<-HN.out.1] at this;exact this));(case aF=>exact (fun _ _=>trivial));(case aB=>exact HB.out);(case aS=>exact HB.out.size);(case aL=>(have:=HN.out;simp;omega));intro v1 w1 hR1 hb1 hg1 hat1;obtain ⟨A',c',e'⟩:=Kd.R_slice hR1;subst e';obtain ⟨m1,hm1⟩ : ∃m,m=(([]:List Int)++l1).length:=⟨_,rfl⟩;rw [<-hm1] at hR1;rw [<-hm1];have HR1:=z_ hR1;have HB1:=z_ hb1;clear hm1 hR1 hb1 hg1 hat1)))
     exact ⟨⟨1,A',m1,c',by omega,rfl,rfl,HR1,HB1⟩,by simp [intOf]⟩
    ·replace HR:=z_ (show Kd.R (Kd.int .u8) 5 _ w.heap.size (fun _=>True) (.slice A n c) l1 from HR.out)
     go_wp2_with ((at_builtin;go_must (refine Kd.R_append_rows (Kd.int .u8) (w0:=w) w.heap.size rfl (.tmp 31) (.tmp 32) 23 5 (.int .u8 0) 1 rfl Tryz.underlying23 infoB rfl (by decide) (by omega) (.slice A n c) l1 l2 A2 n2 c2 (fun _=>True) (fun _=>False) rfl rfl ?aO ?aR (fun _ _ h=>h) (fun _ h=>h.elim) ?aF ?aB ?aS ?aL ?_;(case aO=>exact HR.out);(case aR=>exact (by have:=Kd.C_below H2.out HB.out;rw [<-HN.out.2.1] at this;exact this));(case aF=>exact (fun _ _=>trivial));(case aB=>exact HB.out);(case aS=>exact HB.out.size);(case aL=>(have:=HN.out;simp;omega));intro v1 w1 hR1 hb1 hg1 hat1;obtain ⟨A',c',e'⟩:=Kd.R_slice hR1;subst e';obtain ⟨m1,hm1⟩ : ∃m,m=(l1++l2).length:=⟨_,rfl⟩;rw [<-hm1] at hR1;rw [<-hm1];have HR1:=z_ hR1;have HB1:=z_ hb1;clear hm1 hR1 hb1 hg1 hat1)))
     exact ⟨⟨2,A',m1,c',by omega,rfl,rfl,HR1,HB1⟩,by simp [intOf]⟩
    ·clear hk q0 q1
     go_wp2_with fail
     go_ret
     exact ⟨_,rfl,HR.out,HB.out⟩
attribute [local go_sem] max2_int min2_int max_two min_two
set_option maxHeartbeats 4000000 in
set_option maxRecDepth 100000 in
theorem key_calls (A0:Option Addr) (c0:Nat) (l0:List Int) (w:World) (h0:Kd.C (Kd.int .u8) w A0 l0.length l0) (hc0:l0.length<=c0):
 Calls Tryz.prog 26 #[.slice A0 l0.length c0] w fun e w'=>∃v0_:Value,e = .returned v0_/\Kd.R (Kd.int .u8) 5 w' w.heap.size (fun _=>True) v0_ (keyB l0)/\Below w.heap.size w w':=by
 have H0:=z_ h0
 obtain ⟨n,hn⟩ : ∃n,n=min l0.length 255:=⟨_,rfl⟩
 have e1:(if 255<l0.length then (255:Int) else (l0.length:Int))=(n:Int):=by split<;>omega
 have e2:(if 255<(l0.length:Int) then (255:Int) else (l0.length:Int))=(n:Int):=by split<;>omega
 have e3:IntKind.u8.wrap (n:Int)=(n:Int):=by rw [IntKind.wrap_u8];omega
 obtain ⟨i0,hi0,hzz⟩:=Option.map_eq_some_iff.1 infoB
 simp only [Prod.mk.injEq] at hzz
 have hlt:(l0.take n).length=n:=by rw [List.length_take];omega
 have hcut : ∀W:World,(Instr.slice 23 (.slice A0 l0.length c0) none (some (.int .i64 (n:Int))) none).run Tryz.prog W = .ok (.slice A0 n c0) W:=fun W=>by
  have:=(print_take_of (P:=Tryz.prog) (Value.int .u8) 0 23 5 .i64 Tryz.underlying23 hi0 hzz.2.1 A0 c0 l0 (n:Int) (by omega) (by omega) hc0).1 W
  rw [Int.toNat_natCast,hlt] at this
  exact this
 have HT:=z_ (show Kd.C (Kd.int .u8) w A0 (l0.take n).length (l0.take n) from Kd.C_take h0 (m:=n) (by omega))
 have HN:=z_ (And.intro hn hlt)
 clear h0 hc0 hn hi0 hzz hlt i0
 go_enter Tryz.func26,Tryz.ntmps26
 go_wp2_with fail
 obtain ⟨w2,hw2⟩ : ∃w2,w2=(w.alloc (.cells #[.int .u8 (n:Int)] 5)).alloc (.cells #[.slice (some ⟨w.heap.size,0,none⟩) 1 1,.slice A0 n c0] 23):=⟨_,rfl⟩
 rw [<-hw2]
 have hb12:Below (w.alloc (.cells #[.int .u8 (n:Int)] 5)).heap.size (w.alloc (.cells #[.int .u8 (n:Int)] 5)) w2:=by rw [hw2];exact below_alloc (Below.refl _ _) _
 have HB2:=z_ (show Below w.heap.size w w2 from by rw [hw2];exact below_alloc (below_alloc (Below.refl _ _) _) _)
 have hR:=Kd.R_below (litB_R (w:=w) w.heap.size (Nat.le_refl _) (n:Int)) hb12
 have hT:Two w2 (w.heap.size+1) (.slice (some ⟨w.heap.size,0,none⟩) 1 1) (.slice A0 n c0):=by
  have:=heap_alloc_new (w.alloc (.cells #[.int .u8 (n:Int)] 5)) (.cells #[.slice (some ⟨w.heap.size,0,none⟩) 1 1,.slice A0 n c0] 23)
  rw [hw2]
  simpa [Two] using this
 clear hw2 hb12
 refine (concat2_calls (w.heap.size+1) (some ⟨w.heap.size,0,none⟩) A0 1 c0 [(n:Int)] (l0.take n) (by rw [HN.out.2];exact hT) (Kd.R_reads' hR).2.2 (Kd.C_below HT.out HB2.out) (by simp) (by rw [HN.out.2];have:=HN.out.1;simp;omega)).mono ?_
 rintro e w3 ⟨v,rfl,hR3,hb3⟩
 have HR3:=z_ (Kd.R_lower hR3 HB2.out.size)
 have HB3:=z_ (below_step HB2.out hb3)
 clear hR hT hR3 hb3
 go_wp2_with fail
 go_ret
 have he : [(n:Int)]++l0.take n=keyB l0:=by unfold keyB;rw [HN.out.1,take255];rfl
 exact ⟨_,rfl,by rw [<-he];exact HR3.out,HB3.out⟩
end Go.Proofs.YtdeneoknjeegbaaGreatDoor.P
end
section
namespace Go.Proofs.YtdeneoknjeegbaaGreatDoor.P
open Go.RowKit YtdeneoknjeegbaaGreatDoorW.PrintWords YtdeneoknjeegbaaGreatDoorW.PrintLast YtdeneoknjeegbaaGreatDoorW.PrintMore
attribute [local go_sem] max2_int min2_int max_two min_two max_three min_three max_four min_four
def bits_Begins.f (l0:List Int) (l1:List Int) (a2:Int):Option (Bool):=if a2<1 then (some true) else (if a2<=(wrap64 (8*(mn (l0.length:Int) (l1.length:Int)))) then ((bits_Common.f l0 l1).bind fun t155=>(some (decide (t155>=a2)))) else (some false))
set_option maxHeartbeats 8000000 in
set_option maxRecDepth 100000 in
theorem bits_Begins.calls (A0:Option Addr) (c0:Nat) (l0:List Int) (A1:Option Addr) (c1:Nat) (l1:List Int) (a2:Int) (r:Bool) (w:World) (hr0:Kd.C (Kd.int .u8) w A0 l0.length l0) (hc0:l0.length<=c0) (hr1:Kd.C (Kd.int .u8) w A1 l1.length l1) (hc1:l1.length<=c1) (h:bits_Begins.f l0 l1 a2=some r):
 Calls Tryz.prog 52 #[.slice A0 l0.length c0,.slice A1 l1.length c1,.int .i64 a2] w fun e w'=>e = .returned (.bool r)/\Below w.heap.size w w':=by
 have HR0:=z_ hr0
 have HC0:=z_ hc0
 clear hr0 hc0
 have HR1:=z_ hr1
 have HC1:=z_ hc1
 clear hr1 hc1
 have HB:=z_ (Below.refl w.heap.size w)
 have H:(if a2<1 then (some true) else (if a2<=(wrap64 (8*(mn (l0.length:Int) (l1.length:Int)))) then ((bits_Common.f l0 l1).bind fun t155=>(some (decide (t155>=a2)))) else (some false)))=some r:=h
 clear h
 by_cases c4:a2<1
 ·rw [if_pos c4] at H
  have c4b0:decide (a2<1)=true:=decide_eq_true c4
  clear c4
  obtain rfl:=Option.some.inj H
  go_enter Tryz.func52,Tryz.ntmps52
  go_wp2
  go_ret
  exact ⟨by first|rfl|(simp [errW_none,errW_some]<;>rfl)|(simp [*,errW_none,errW_some]<;>rfl),by repeat (first|(with_reducible first|exact HB.out|apply below_alloc|apply pw_below_drewN|apply below_drew1)|exact HB.out)⟩
 ·rw [if_neg c4] at H
  have c4b0:decide (a2<1)=false:=decide_eq_false c4
  clear c4
  obtain ⟨ji5,hji5⟩ : ∃j_:Int,(mn (l0.length:Int) (l1.length:Int))=j_:=⟨_,rfl⟩
  replace H:(if a2<=(wrap64 (8*(ji5))) then ((bits_Common.f l0 l1).bind fun t155=>(some (decide (t155>=a2)))) else (some false))=some r:=by first|(rw [hji5] at H;exact H)|(simp only [hji5] at H ⊢;exact H)
  (try (have hji5l:0<=ji5:=by (rw [<-hji5];unfold mn;(repeat' split)<;>omega)))
  (try (have hji5m:0<=ji5:=by omega))
  have hji5_:(if (l1.length:Int)<(l0.length:Int) then (l1.length:Int) else (l0.length:Int))=ji5:=hji5
  (try (have hji5n_:(if l1.length<l0.length then (l1.length:Int) else (l0.length:Int))=ji5:=(by rw [<-hji5_];split<;>split<;>omega)))
  by_cases c6:a2<=(wrap64 (8*(ji5)))
  ·rw [if_pos c6] at H
   have c6b0:decide (a2<=(wrap64 (8*(ji5))))=true:=decide_eq_true c6
   clear c6
   replace H:=Option.bind_eq_some_iff.mp H
   obtain ⟨t155,A70,H⟩:=H
   replace H:(some (decide (t155>=a2)))=some r:=H
   have A7:=z_ A70
   clear A70
   obtain rfl:=Option.some.inj H
   go_enter Tryz.func52,Tryz.ntmps52
   go_wp2_with (first|(go_at_call 59;(with_reducible refine (bits_Common.calls _ _ l0 _ _ l1 t155 _ ?side1 ?side2 ?side3 ?side4 A7.out).mono ?_);(case side1=>repeat (first|exact HR0.out|(with_reducible refine Kd.C_alloc ?_ _)|(with_reducible refine Kd.C_drewN ?_ _)|(with_reducible refine Kd.C_drew ?_)));(case side2=>exact HC0.out);(case side3=>repeat (first|exact HR1.out|(with_reducible refine Kd.C_alloc ?_ _)|(with_reducible refine Kd.C_drewN ?_ _)|(with_reducible refine Kd.C_drew ?_)));(case side4=>exact HC1.out);rintro e w8 ⟨rfl,hb⟩;have n0_:=z_ (below_step (by repeat (first|(with_reducible first|exact HB.out|apply below_alloc|apply pw_below_drewN|apply below_drew1)|exact HB.out)) hb);clear HB;have HB:=n0_;clear n0_;(try clear hb);(try clear hb2);(try clear hk);(try clear hi)))
   go_ret
   exact ⟨by first|rfl|(simp [errW_none,errW_some]<;>rfl)|(simp only [<-hji5];first|rfl|(simp [errW_none,errW_some]<;>rfl))|(simp [*,errW_none,errW_some]<;>rfl),by repeat (first|(with_reducible first|exact HB.out|apply below_alloc|apply pw_below_drewN|apply below_drew1)|exact HB.out)⟩
  ·rw [if_neg c6] at H
   have c6b0:decide (a2<=(wrap64 (8*(ji5))))=false:=decide_eq_false c6
   clear c6
   obtain rfl:=Option.some.inj H
   go_enter Tryz.func52,Tryz.ntmps52
   go_wp2
   go_ret
   exact ⟨by first|rfl|(simp [errW_none,errW_some]<;>rfl)|(simp only [<-hji5];first|rfl|(simp [errW_none,errW_some]<;>rfl))|(simp [*,errW_none,errW_some]<;>rfl),by repeat (first|(with_reducible first|exact HB.out|apply below_alloc|apply pw_below_drewN|apply below_drew1)|exact HB.out)⟩
end Go.Proofs.YtdeneoknjeegbaaGreatDoor.P
end
