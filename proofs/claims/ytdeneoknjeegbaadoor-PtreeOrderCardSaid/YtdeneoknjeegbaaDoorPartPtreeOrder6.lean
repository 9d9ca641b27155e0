/- Lemmas of this claim, part 6. -/
import Derived.Test.YtdeneoknjeegbaaDoorPartPtreeOrder5
import Derived.BigRegion
import Derived.WalkSpells
import Derived.Outline
import Derived.Test.YtdeneoknjeegbaaDoorPartPtreeOrder2
import Derived.Test.YtdeneoknjeegbaaDoorPartPtreeOrder3
import Derived.Test.YtdeneoknjeegbaaDoorPartPtreeOrder4
import Derived.Laws.BitsAllLaws
set_option linter.unusedVariables false
set_option linter.unusedSimpArgs false
section
namespace Go.Proofs.YtdeneoknjeegbaaDoor.P
open Go.RowKit YtdeneoknjeegbaaDoor.Pure YtdeneoknjeegbaaDoorW.PrintWords YtdeneoknjeegbaaDoorW.PrintLast YtdeneoknjeegbaaDoorW.PrintMore
def forkBad (cs:Cs) (depth:Int) (prefix_:List Int) (left right:Int):Prop:=depth<0\/8*(prefix_.length:Int)<depth\/65535<prefix_.length\/nodeAt cs left=none\/nodeAt cs right=none
def forkNd (size depth:Int) (prefix_:List Int) (left right:Int) (nl nr:Nd):Nd:=⟨false,[],[],0,depth,firstB prefix_ depth,(if nl.f6<nr.f6 then nr.f6 else nl.f6),left,right,hashB size 2 [num8 depth,firstB (firstB prefix_ depth) depth,num8 (if nl.f6<nr.f6 then nr.f6 else nl.f6),nl.f9,nr.f9]⟩
def forkOf (size:Int) (cs:Cs) (depth:Int) (prefix_:List Int) (left right:Int):Nd:=match nodeAt cs left,nodeAt cs right with
 | some nl,some nr=>forkNd size depth prefix_ left right nl nr
 | _,_=>z39
theorem FreeU8 {w:World} {base n c:Nat} {ok:Nat->Prop} {A:Option Addr} {l:List Int} (h:Kd.R (Kd.int .u8) 5 w base ok (.slice A n c) l):Kd.C (Kd.int .u8) w A l.length l:=(Kd.R_reads' h).2.2
def fork_T6:Bool×List (List Nat×List Nat):=(true,[([],[]),([],[]),([],[]),([1,2],[1,2]),([],[]),([4],[4]),([5],[5]),([6],[6]),([],[]),([8],[8]),([9],[9]),([10],[10]),([7,11],[7,11]),([],[]),([],[]),([0,3,12,13,14],[0,3,12,13,14]),([],[]),([16,15,3,0,1,2,3,4,5,6,7,8,9,10,11,12,13,14,15,16],[15,16])])
def fork_B6:List Nat:=[0,0,0,6,0,16,48,112,0,256,768,1792,4080,0,0,32767,0,131071]
theorem fork_tab6:rtab .any (opsOf Tryd.f39 6)=fork_T6:=by kernel_rfl
theorem fork_bits6:waitsOk fork_T6.2 fork_B6=true:=by kernel_rfl
attribute [local go_sem] max2_int min2_int max_two min_two
set_option maxHeartbeats 8000000 in
set_option maxRecDepth 100000 in
theorem fork_calls {w:World} {base p:Nat} {size room:Int} {vc vf:Value} {X:Nat->Prop} {cs:Cs} (h:ArenaM w base p size room vc vf X cs) (A:Option Addr) (cc:Nat) (c0:List Int) (depth left right:Int)
 (b0:BX w X (.slice A c0.length cc) c0) (hGS:GlobS w):
 Calls Tryd.prog 39 #[.pointer (some ⟨p,0,none⟩),.int .i64 depth,.slice A c0.length cc,.int .i64 left,.int .i64 right] w
  fun e w'=>PutPost (forkBad cs depth c0 left right) w w' base p size room vc vf X cs (forkOf size cs depth c0 left right) e:=by
 have HBk:=z_ (blkA h)
 have HS:=z_ (show size≠0 by have:=h.hs;omega)
 have HM:=z_ h
 have HB0:=z_ b0
 have HGS:=z_ hGS
 have HBW:=z_ h.base_le
 clear h b0 hGS
 obtain ⟨m8,hm8⟩ : ∃m,wrap64 (8*(c0.length:Int))=m:=⟨_,rfl⟩
 have HM8:=z_ (show m8<depth->8*(c0.length:Int)<depth\/65535<c0.length from fun hlt=>by
  by_cases hl:65535<c0.length
  ·exact .inr hl
  ·rw [wrap64_id _ (by omega)] at hm8
   exact .inl (by omega))
 have HM9:=z_ (show depth<=m8->c0.length<=65535->depth<=8*(c0.length:Int) from fun hlt hl=>by
  rw [wrap64_id _ (by omega)] at hm8
  omega)
 go_enter Tryd.func39,Tryd.ntmps39
 go_wp2_with fail
 refine (none_calls HBk.out HS.out).mono ?_
 rintro e w' ⟨rfl,rfl⟩
 go_wp2_with fail
 refine (atA_calls HM.out left).mono ?_
 rintro e w' ⟨⟨vl,rfl,hvl⟩,rfl⟩
 have HVL:=z_ hvl
 clear hvl
 go_wp2_with fail
 refine (atA_calls HM.out right).mono ?_
 rintro e w' ⟨⟨vr,rfl,hvr⟩,rfl⟩
 have HVR:=z_ hvr
 clear hvr
 by_cases h1:depth<0
 ·have hd1:=decide_eq_true h1
  have HC:=z_ (show forkBad cs depth c0 left right from .inl h1)
  clear h1 hm8
  go_wp2_with fail
  go_ret2
  exact ⟨fun _=>⟨rfl,ArenaP.of_below HM.out (Below.refl _ _)⟩,fun h=>absurd HC.out h,fun h=>absurd HC.out h⟩
 have hd1:=decide_eq_false h1
 by_cases h2:depth>m8
 ·have hd2:=decide_eq_true h2
  have HC:=z_ (show forkBad cs depth c0 left right from (HM8.out h2).elim (fun h=>.inr (.inl h)) (fun h=>.inr (.inr (.inl h))))
  clear h1 h2
  go_wp2_with fail
  go_ret2
  exact ⟨fun _=>⟨rfl,ArenaP.of_below HM.out (Below.refl _ _)⟩,fun h=>absurd HC.out h,fun h=>absurd HC.out h⟩
 have hd2:=decide_eq_false h2
 by_cases h3:(c0.length:Int)>65535
 ·have hd3:=decide_eq_true h3
  have hd4:decide (65535<c0.length)=true:=decide_eq_true (by omega)
  have HC:=z_ (show forkBad cs depth c0 left right from .inr (.inr (.inl (by omega))))
  clear h1 h2 h3
  go_wp2_with fail
  go_ret2
  exact ⟨fun _=>⟨rfl,ArenaP.of_below HM.out (Below.refl _ _)⟩,fun h=>absurd HC.out h,fun h=>absurd HC.out h⟩
 have hd3:=decide_eq_false h3
 have hd4:decide (65535<c0.length)=false:=decide_eq_false (by omega)
 have H65:=z_ (show c0.length<=65535 by omega)
 have H8:=z_ (HM9.out (by omega) (by omega))
 have H0D:=z_ h1
 clear h1 h2 h3
 cases hol:nodeAt cs left with
 | none=>
   have hv:=HVL.out
   rw [hol] at hv
   obtain rfl:vl = .pointer none:=hv
   have HC:=z_ (show forkBad cs depth c0 left right from .inr (.inr (.inr (.inl hol))))
   clear hol HVL HVR
   go_wp2_with fail
   go_ret2
   exact ⟨fun _=>⟨rfl,ArenaP.of_below HM.out (Below.refl _ _)⟩,fun h=>absurd HC.out h,fun h=>absurd HC.out h⟩
 | some nl=>
 cases hor:nodeAt cs right with
 | none=>
   have hv:=HVR.out
   rw [hor] at hv
   obtain rfl:vr = .pointer none:=hv
   have hv:=HVL.out
   rw [hol] at hv
   obtain ⟨gl,dl,rl,rfl,_,_⟩:=hv
   have HC:=z_ (show forkBad cs depth c0 left right from .inr (.inr (.inr (.inr hor))))
   clear hol hor HVL HVR
   go_wp2_with fail
   go_ret2
   exact ⟨fun _=>⟨rfl,ArenaP.of_below HM.out (Below.refl _ _)⟩,fun h=>absurd HC.out h,fun h=>absurd HC.out h⟩
 | some nr=>
 have HC:=z_ (show ¬forkBad cs depth c0 left right from fun hb=>by
  rcases hb with hb|hb|hb|hb|hb
  ·have:=H0D.out
   omega
  ·have:=H8.out
   omega
  ·have:=H65.out
   omega
  ·rw [hol] at hb
   cases hb
  ·rw [hor] at hb
   cases hb)
 have HOF:=z_ (show forkOf size cs depth c0 left right=forkNd size depth c0 left right nl nr by unfold forkOf;rw [hol,hor])
 have hvl:=HVL.out
 have hvr:=HVR.out
 rw [hol] at hvl
 rw [hor] at hvr
 obtain ⟨gl,dl,rl,rfl,⟨LA1,LA2,LA5,LA9,lc1,lc2,lc5,lc9,hrl,-,-,-,bl9⟩,hcl⟩:=hvl
 obtain ⟨gr,dr,rr,rfl,⟨RA1,RA2,RA5,RA9,rc1,rc2,rc5,rc9,hrr,-,-,-,br9⟩,hcr⟩:=hvr
 have l6:=hcl 6 (.int .i64 nl.f6) (by rw [hrl];rfl)
 have l9:=hcl 9 (.slice LA9 nl.f9.length lc9) (by rw [hrl];rfl)
 have r6:=hcr 6 (.int .i64 nr.f6) (by rw [hrr];rfl)
 have r9:=hcr 9 (.slice RA9 nr.f9.length rc9) (by rw [hrr];rfl)
 have HSOK:=z_ (show ∀w':World,Below w.heap.size w w'->w'.cell? ⟨gl,dl+6,none⟩=some (.int .i64 nl.f6)/\w'.cell? ⟨gr,dr+6,none⟩=some (.int .i64 nr.f6) from fun w' hb=>⟨(hb.cell (World.block_lt_of_cell? w _ l6)).trans l6,(hb.cell (World.block_lt_of_cell? w _ r6)).trans r6⟩)
 have HS9:=z_ (show ∀w':World,Below w.heap.size w w'->w'.cell? ⟨gl,dl+9,none⟩=some (.slice LA9 nl.f9.length lc9)/\w'.cell? ⟨gr,dr+9,none⟩=some (.slice RA9 nr.f9.length rc9) from fun w' hb=>⟨(hb.cell (World.block_lt_of_cell? w _ l9)).trans l9,(hb.cell (World.block_lt_of_cell? w _ r9)).trans r9⟩)
 have HL9:=z_ bl9
 have HR9:=z_ br9
 have HFIRST:=z_ (show ∀W:World,Below w.heap.size w W->Calls Tryd.prog 77 #[.slice A c0.length cc,.int .i64 depth] W fun e w'=>∃v0_:Value,e = .returned (v0_)/\Kd.R (Kd.int .u8) 5 w' W.heap.size (fun _=>True) v0_ (firstB c0 depth)/\Below W.heap.size W w' from fun W hb=>
  bits_First.calls A cc c0 depth (firstB c0 depth) W (Kd.V_reads' (Kd.V_below HB0.out hb)).2.2 (Kd.V_reads' HB0.out).2.1 (by unfold bits_First.f;exact if_pos (by have:=H65.out;omega)))
 clear hcl hcr hrl hrr bl9 br9 l6 l9 r6 r9 hol hor HVL HVR HM8 HM9
 go_wp2_with fail
 refine start_ (n:=18) (S:=fun w'=>w'.cell? ⟨gl,dl+6,none⟩=some (.int .i64 nl.f6)/\w'.cell? ⟨gr,dr+6,none⟩=some (.int .i64 nr.f6)) (ds:=[]) (bt_ 18 0) (by kernel_rfl) rfl rfl (HSOK.out _ (below_drew (Below.refl _ _))) (fun hHeld=>?_);refine with_tabW fork_tab6 fork_bits6 (fun HT_ HW_=>?_)
 have HB:=z_ (show Below w.heap.size w w.drew from below_drew (Below.refl _ _))
 generalize hgw:w.drew=w22 at HB hHeld ⊢
 clear hgw
 refine pure_ (i:=0) (N:=some 45) (v:=?_) (a':=?_) (bt_ 18 1) rfl rfl (any_of HT_.out (by kernel_rfl)) (fun _ _ _ h=>h) (Or.inl ⟨by rfl,?_⟩) ?_ ?_
 rotate_left
 ·intro w'
  go_simp
  with_reducible rfl
 rotate_left
 ·simp only [pq_]
  rfl
 refine pure_ (i:=1) (N:=some 46) (v:=?_) (a':=?_) (bt_ 18 3) rfl rfl (any_of HT_.out (by kernel_rfl)) (fun _ _ _ h=>h) (Or.inl ⟨by rfl,?_⟩) ?_ ?_
 rotate_left
 ·intro w'
  go_simp
  with_reducible rfl
 rotate_left
 ·simp only [pq_]
  rfl
 refine pure_ (i:=2) (N:=some 47) (v:=?_) (a':=?_) (bt_ 18 7) rfl rfl (any_of HT_.out (by kernel_rfl)) (fun _ _ _ h=>h) (Or.inl ⟨by rfl,?_⟩) ?_ ?_
 rotate_left
 ·intro w'
  go_simp
  with_reducible rfl
 rotate_left
 ·simp only [pq_]
  rfl
 refine pure_ (i:=4) (N:=some 49) (v:=?_) (a':=?_) (bt_ 18 23) rfl rfl (any_of HT_.out (by kernel_rfl)) (fun _ _ _ h=>h) (Or.inl ⟨by rfl,?_⟩) ?_ ?_
 rotate_left
 ·intro w'
  go_simp
  with_reducible rfl
 rotate_left
 ·simp only [pq_]
  rfl
 refine pure_ (i:=5) (N:=some 50) (v:=?_) (a':=?_) (bt_ 18 55) rfl rfl (any_of HT_.out (by kernel_rfl)) (fun _ _ _ h=>h) (Or.inl ⟨by rfl,?_⟩) ?_ ?_
 rotate_left
 ·intro w'
  go_simp
  with_reducible rfl
 rotate_left
 ·simp only [pq_]
  rfl
 refine pure_ (i:=6) (N:=some 51) (v:=?_) (a':=?_) (bt_ 18 119) rfl rfl (any_of HT_.out (by kernel_rfl)) (fun _ _ _ h=>h) (Or.inl ⟨by rfl,?_⟩) ?_ ?_
 rotate_left
 ·intro w'
  go_simp
  with_reducible rfl
 rotate_left
 ·simp only [pq_]
  rfl
 refine pure_ (i:=8) (N:=some 53) (v:=?_) (a':=?_) (bt_ 18 375) rfl rfl (any_of HT_.out (by kernel_rfl)) (fun _ _ _ h=>h) (Or.inl ⟨by rfl,?_⟩) ?_ ?_
 rotate_left
 ·intro w'
  go_simp
  with_reducible rfl
 rotate_left
 ·simp only [pq_]
  rfl
 refine pure_ (i:=9) (N:=some 54) (v:=?_) (a':=?_) (bt_ 18 887) rfl rfl (any_of HT_.out (by kernel_rfl)) (fun _ _ _ h=>h) (Or.inl ⟨by rfl,?_⟩) ?_ ?_
 rotate_left
 ·intro w'
  go_simp
  with_reducible rfl
 rotate_left
 ·simp only [pq_]
  rfl
 refine pure_ (i:=10) (N:=some 55) (v:=?_) (a':=?_) (bt_ 18 1911) rfl rfl (any_of HT_.out (by kernel_rfl)) (fun _ _ _ h=>h) (Or.inl ⟨by rfl,?_⟩) ?_ ?_
 rotate_left
 ·intro w'
  go_simp
  with_reducible rfl
 rotate_left
 ·simp only [pq_]
  rfl
 refine pure_ (i:=13) (N:=some 58) (v:=?_) (a':=?_) (bt_ 18 10103) rfl rfl (any_of HT_.out (by kernel_rfl)) (fun _ _ _ h=>h) (Or.inl ⟨by rfl,?_⟩) ?_ ?_
 rotate_left
 ·intro w'
  go_simp
  with_reducible rfl
 rotate_left
 ·simp only [pq_]
  rfl
 refine pure_ (i:=14) (N:=some 59) (v:=?_) (a':=?_) (bt_ 18 26487) rfl rfl (any_of HT_.out (by kernel_rfl)) (fun _ _ _ h=>h) (Or.inl ⟨by rfl,?_⟩) ?_ ?_
 rotate_left
 ·intro w'
  go_simp
  with_reducible rfl
 rotate_left
 ·simp only [pq_]
  rfl
 refine take_ (i:=7) (N:=some 52) (v:=?_) (a':=?_) (bt_ 18 26615) rfl rfl (take_ofW HT_.out HW_.out (by kernel_rfl)) (fun _ _ _ h=>h) (Or.inl ⟨by rfl,?_⟩) hHeld ?_ ?_
 rotate_left
 ·rintro w' ⟨s0,s1⟩
  go_simp
  with_reducible rfl
 rotate_left
 ·simp only [pq_]
  rfl
 refine take_ (i:=11) (N:=some 56) (v:=?_) (a':=?_) (bt_ 18 28663) rfl rfl (take_ofW HT_.out HW_.out (by kernel_rfl)) (fun _ _ _ h=>h) (Or.inl ⟨by rfl,?_⟩) hHeld ?_ ?_
 rotate_left
 ·rintro w' ⟨s0,s1⟩
  go_simp
  with_reducible rfl
 rotate_left
 ·simp only [pq_]
  rfl
 refine pure_ (i:=12) (N:=some 57) (v:=?_) (a':=?_) (bt_ 18 32759) rfl rfl (any_of HT_.out (by kernel_rfl)) (fun _ _ _ h=>h) (Or.inl ⟨by rfl,?_⟩) ?_ ?_
 rotate_left
 ·intro w'
  go_simp
  with_reducible rfl
 rotate_left
 ·simp only [pq_]
  rfl
 refine join_ (σ:=Option Addr×Nat×Nat) 1 (bt_ 18 131071) (fun s_=>[(48,.slice s_.1 (firstB c0 depth).length s_.2.1),(14,.pointer (some ⟨s_.2.2,0,none⟩)),(60,.agg #[.bool false,.slice none 0 0,.slice none 0 0,.int .i64 0,.int .i64 depth,.slice s_.1 (firstB c0 depth).length s_.2.1,.int .i64 (if nl.f6<nr.f6 then nr.f6 else nl.f6),.int .i64 left,.int .i64 right,.slice none 0 0])]) (fun s_ w'=>(w'.cell? ⟨gl,dl+6,none⟩=some (.int .i64 nl.f6)/\w'.cell? ⟨gr,dr+6,none⟩=some (.int .i64 nr.f6))/\Kd.R (Kd.int .u8) 5 w' w.heap.size (fun k=>k≠s_.2.2) (.slice s_.1 (firstB c0 depth).length s_.2.1) (firstB c0 depth)/\NdB w' s_.2.2 zeroR/\Below w.heap.size w w'/\w.heap.size<=s_.2.2) ?_ ?_
 rotate_left
 ·intro hCont
  refine two_ (i:=3) (j:=16) (Ni:=some 48) (Nj:=some 14) (bt_ 18 32767) (bt_ 18 98295) rfl rfl rfl rfl (two_of HT_.out (by kernel_rfl)) (by decide) (by decide) (fun K hK=>?_) (fun K hK=>?_)
  ·skip
   refine goes_ Tryd.func77 (by kernel_rfl) rfl #[.slice A c0.length cc,.int .i64 depth] (by rfl) rfl rfl (by (try simp only [List.map_toArray,List.map_cons,List.map_nil]);first|done|rfl) ?_
   with_reducible refine (HFIRST.out _ HB.out).mono ?_
   rintro e w23 ⟨v5,rfl,hR5,hb⟩
   obtain ⟨B5,d5,rfl⟩:=Kd.R_slice hR5
   refine ⟨_,rfl,?_⟩
   have hbs:=HB.out.size
   have HR5:=z_ (Kd.R_lower hR5 hbs)
   have HL5:=z_ (Kd.R_bound hR5)
   replace HB:=z_ (below_step HB.out hb)
   refine hK.out _ _ (HSOK.out _ HB.out) (fun hHeld=>?_)
   clear hK K
   refine norm_ (a':=?_) ?_ ?_
   rotate_left
   ·show Act.put _ (some 48) _=_
    simp only [pq_]
    rfl
   refine pure_ (i:=15) (N:=some 60) (v:=?_) (a':=?_) (bt_ 18 65535) rfl rfl (any_of HT_.out (by kernel_rfl)) (fun _ _ _ h=>h) (Or.inl ⟨by rfl,?_⟩) ?_ ?_
   rotate_left
   ·intro w'
    go_simp
    with_reducible rfl
   rotate_left
   ·simp only [pq_]
    rfl
   refine one_ (i:=16) (N:=some 14) (bt_ 18 131071) rfl rfl (one_of HT_.out (by kernel_rfl)) (by decide) (fun K hK=>?_)
   refine box_step ?hg (N:=14) ?hd (cs:=#[.bool false,.slice none 0 0,.slice none 0 0,.int .i64 0,.int .i64 0,.slice none 0 0,.int .i64 0,.int .i64 0,.int .i64 0,.slice none 0 0]) (t:=39) ?hr ?_;(case hd=>rfl);(case hg=>rfl);(case hr=>first|(go_simp;done)|(go_simp;rfl))
   intro g hg w24 hbox hb
   have HGE:=z_ (show w.heap.size<=g from by have:=HB.out.size;omega)
   have HG:=z_ (show NdB w24 g zeroR from hbox)
   replace HR5:=z_ (Kd.R_mono (Kd.R_below (Kd.R_bound HR5.out) hb) (ok':=fun k=>k≠g) (fun k hk=>by have:=hk.2.2.1;omega))
   replace HB:=z_ (below_step HB.out hb)
   refine hK.out _ _ (HSOK.out _ HB.out) (fun hHeld=>?_)
   clear hK K
   refine norm_ (a':=?_) ?_ ?_
   rotate_left
   ·show Act.put _ (some 14) _=_
    simp only [pq_]
    rfl
   exact norm_ (by simp only [putAll,Act.put,List.setIfInBounds_toArray,List.set_cons_zero,List.set_cons_succ]) (hCont (B5,d5,g) _ ⟨hHeld,HR5.out,HG.out,HB.out,HGE.out⟩)
  ·skip
   refine box_step ?hg (N:=14) ?hd (cs:=#[.bool false,.slice none 0 0,.slice none 0 0,.int .i64 0,.int .i64 0,.slice none 0 0,.int .i64 0,.int .i64 0,.int .i64 0,.slice none 0 0]) (t:=39) ?hr ?_;(case hd=>rfl);(case hg=>rfl);(case hr=>first|(go_simp;done)|(go_simp;rfl))
   intro g hg w24 hbox hb
   have HGE:=z_ (show w.heap.size<=g/\g<w24.heap.size from ⟨by have:=HB.out.size;omega,blk_lt hbox⟩)
   have HG:=z_ (show NdB w24 g zeroR from hbox)
   replace HB:=z_ (below_step HB.out hb)
   refine hK.out _ _ (HSOK.out _ HB.out) (fun hHeld=>?_)
   clear hK K
   refine norm_ (a':=?_) ?_ ?_
   rotate_left
   ·show Act.put _ (some 14) _=_
    simp only [pq_]
    rfl
   refine one_ (i:=3) (N:=some 48) (bt_ 18 98303) rfl rfl (one_of HT_.out (by kernel_rfl)) (by decide) (fun K hK=>?_)
   refine goes_ Tryd.func77 (by kernel_rfl) rfl #[.slice A c0.length cc,.int .i64 depth] (by rfl) rfl rfl (by (try simp only [List.map_toArray,List.map_cons,List.map_nil]);first|done|rfl) ?_
   with_reducible refine (HFIRST.out _ HB.out).mono ?_
   rintro e w23 ⟨v5,rfl,hR5,hb⟩
   obtain ⟨B5,d5,rfl⟩:=Kd.R_slice hR5
   refine ⟨_,rfl,?_⟩
   have hbs:=HB.out.size
   have HR5:=z_ (Kd.R_lower (Kd.R_mono (Kd.R_bound hR5) (ok':=fun k=>k≠g) (fun k hk=>by have:=hk.2.1;have:=HGE.out.2;omega)) hbs)
   replace HG:=z_ (HG.out.below hb)
   replace HGE:=z_ HGE.out.1
   replace HB:=z_ (below_step HB.out hb)
   refine hK.out _ _ (HSOK.out _ HB.out) (fun hHeld=>?_)
   clear hK K
   refine norm_ (a':=?_) ?_ ?_
   rotate_left
   ·show Act.put _ (some 48) _=_
    simp only [pq_]
    rfl
   refine pure_ (i:=15) (N:=some 60) (v:=?_) (a':=?_) (bt_ 18 131071) rfl rfl (any_of HT_.out (by kernel_rfl)) (fun _ _ _ h=>h) (Or.inl ⟨by rfl,?_⟩) ?_ ?_
   rotate_left
   ·intro w'
    go_simp
    with_reducible rfl
   rotate_left
   ·simp only [pq_]
    rfl
   exact norm_ (by simp only [putAll,Act.put,List.setIfInBounds_toArray,List.set_cons_zero,List.set_cons_succ]) (hCont (B5,d5,g) _ ⟨hHeld,HR5.out,HG.out,HB.out,HGE.out⟩)
 rintro ⟨B5,d5,g⟩ w4 ⟨hHeld,hR5,hg,hb,hge⟩
 refine norm_ (a':=?_) ?_ ?_
 rotate_left
 ·simp only [putAll,Act.put,List.setIfInBounds_toArray,List.set_cons_zero,List.set_cons_succ]
  rfl
 refine one_ (i:=17) (N:=none) (bt_ 18 262143) rfl rfl (one_of HT_.out (by kernel_rfl)) (by decide) (fun K hK=>?_)
 obtain ⟨nw,hnw⟩ : ∃nw,nw=(if nl.f6<nr.f6 then nr.f6 else nl.f6):=⟨_,rfl⟩
 have HNW:=z_ hnw
 obtain ⟨w5,hw5⟩ : ∃w5,w5=putN w4 g (.bool false) (.slice none 0 0) (.slice none 0 0) (.int .i64 0) (.int .i64 depth) (.slice B5 (firstB c0 depth).length d5) (.int .i64 nw) (.int .i64 left) (.int .i64 right) (.slice none 0 0):=⟨_,rfl⟩
 have HG5:=z_ (show NdB w5 g [.bool false,.slice none 0 0,.slice none 0 0,.int .i64 0,.int .i64 depth,.slice B5 (firstB c0 depth).length d5,.int .i64 nw,.int .i64 left,.int .i64 right,.slice none 0 0] from by rw [hw5];exact putN_nd hg _ _ _ _ _ _ _ _ _ _)
 have HB5:=z_ (show Below w.heap.size w w5 from by rw [hw5];exact putN_below hb hge _ _ _ _ _ _ _ _ _ _)
 have HR5:=z_ (show Kd.R (Kd.int .u8) 5 w5 w.heap.size (fun k=>k≠g) (.slice B5 (firstB c0 depth).length d5) (firstB c0 depth) from by rw [hw5];exact Kd.R_step hR5 (fun k hk _=>putN_far hk _ _ _ _ _ _ _ _ _ _))
 have HGE:=z_ hge
 obtain ⟨z0,z1,z2,z3,z4,z5,z6,z7,z8,z9⟩:=NdB.cells hg
 obtain ⟨f0,f1,f2,f3,f4,f5,f6,f7,f8,f9⟩:=hg.frozen
 clear hR5
 refine skip_ (w1:=w5) (by rfl) rfl ?_ ?_
 ·rw [hw5,hnw]
  go_simp<;>first|rfl|done
 clear z0 z1 z2 z3 z4 z5 z6 z7 z8 z9 f0 f1 f2 f3 f4 f5 f6 f7 f8 f9 hw5 hg hb hge hHeld
 refine hK.out _ _ (HSOK.out _ HB5.out) (fun hHeld=>?_)
 clear hK K hHeld
 refine done_ (done_of HT_.out (by kernel_rfl)) ?_
 clear HFIRST HSOK
 have HNV:=HNW
 obtain ⟨c5,hc5⟩ : ∃c5,c5=firstB c0 depth:=⟨_,rfl⟩
 have HC5:=z_ hc5
 have HL5:=z_ (show c5.length<=65535 from by rw [hc5];exact Nat.le_trans (firstB_length c0 depth) H65.out)
 rw [<-hc5] at HG5 HR5
 rw [<-hc5]
 clear hc5
 try rw [<-HNW.out]
 clear hnw
 go_wp2_with fail
 refine still_tail_at 17 (by kernel_rfl) (by kernel_rfl) (fun W hW=>?_)
 have hbw:Below w5.heap.size w5 W:=by rw [hW];exact below_drew (Below.refl _ _)
 clear hW
 have HG6:=z_ (HG5.out.below hbw)
 have HB6:=z_ (below_step HB5.out hbw)
 have HR6:=z_ (Kd.R_below HR5.out hbw)
 clear hbw HG5 HB5 HR5
 obtain ⟨k0,k1,k2,k3⟩:=(HBk.out.below HB6.out).cells
 obtain ⟨z0,z1,z2,z3,z4,z5,z6,z7,z8,z9⟩:=NdB.cells HG6.out
 obtain ⟨l9,r9⟩:=HS9.out W HB6.out
 have hgW:=blk_lt HG6.out
 simp only [List.take_succ_cons,List.take_zero,List.drop_succ_cons,List.drop_zero]
 repeat still_step
 refine wpStill_nil ?_
 go_wp2_with fail
 obtain ⟨lh,hlh⟩ : ∃lh,lh=hashB size 2 [num8 depth,firstB c5 depth,num8 nw,nl.f9,nr.f9]:=⟨_,rfl⟩
 have HLH:=z_ hlh
 have hhash:=arena_ForkHash.calls 9 size depth B5 d5 c5 nw (fun k=>X k/\k<w.heap.size) LA9 lc9 nl.f9 (fun k=>X k/\k<w.heap.size) RA9 rc9 nr.f9 lh W (FreeU8 HR6.out) (Kd.R_reads' HR6.out).2.1 (Kd.V_below (Kd.V_bound HL9.out) HB6.out) (Kd.V_below (Kd.V_bound HR9.out) HB6.out) (GlobS.of HGS.out HB6.out) (by rw [hlh];exact fork_f 9 (by decide) size depth c5 nw nl.f9 nr.f9 (by have:=HL5.out;omega))
 clear hlh
 refine hhash.mono ?_
 clear hhash
 rintro e3 w7 ⟨v,rfl,hV4,hB4⟩
 obtain ⟨B9,d9,rfl⟩:=Kd.V_slice hV4
 have HV4:=z_ hV4
 have HB4:=z_ hB4
 have HG7:=z_ (HG6.out.below hB4)
 clear hV4 hB4 z0 z1 z2 z3 z4 z5 z6 z7 z8 z9 l9 r9 k0 k1 k2 k3
 obtain ⟨z0,z1,z2,z3,z4,z5,z6,z7,z8,z9⟩:=NdB.cells HG7.out
 have f9:=blk_frozen HG7.out 9
 go_wp2_with fail
 clear z0 z1 z2 z3 z4 z5 z6 z7 z8 z9 f9
 obtain ⟨W8,hW8⟩ : ∃W8,W8=w7.setCell ⟨g,9,none⟩ (.slice B9 lh.length d9):=⟨_,rfl⟩
 rw [<-hW8]
 have hge:w.heap.size<=g:=HGE.out
 have hgW2:g<W.heap.size:=blk_lt HG6.out
 have s6:=HB6.out.size
 have s4:=HB4.out.size
 have hB07:Below w.heap.size w w7:=HB6.out.trans (HB4.out.mono s6)
 have hB08:Below w.heap.size w W8:=by rw [hW8];exact Below.setCell hB07 (by show w.heap.size<=g;exact hge) _
 have hsz:W8.heap.size=w7.heap.size:=by rw [hW8];simp [World.setCell]
 have hfar : ∀k,k≠g->W8.heap[k]? = w7.heap[k]? := fun k hk=>by rw [hW8];exact Below.heap_setCell w7 ⟨g,9,none⟩ _ k hk
 obtain ⟨X4,hX4⟩ : ∃X4:Nat->Prop,X4=fun k=>X k\/(w.heap.size<=k/\k<w7.heap.size/\k≠g):=⟨_,rfl⟩
 have hsepX : ∀k,X k->k<w.heap.size/\¬OwnS p vc vf k:=by
  obtain ⟨rows,fr,hv⟩:=HM.out.mem
  exact hv.sep
 have hownlt : ∀k,OwnS p vc vf k->k<w.heap.size:=by
  obtain ⟨rows,fr,hv⟩:=HM.out.mem
  exact hv.own_lt
 have hM5:ArenaM W8 base p size room vc vf X4 cs:=HM.out.step (by omega) (fun k hk _=>hB08.block k hk) (fun k hx=>by rw [hX4];exact .inl hx) (fun k hx=>by
  rw [hX4] at hx
  rcases hx with hx|hx
  ·exact ⟨by have:=(hsepX k hx).1;omega,(hsepX k hx).2⟩
  ·exact ⟨by omega,fun ho=>by have:=hownlt k ho;omega⟩)
 have hb5:BX W8 X4 (.slice B5 c5.length d5) c5:=by
  have h1:=Kd.R_V (base':=0) (Kd.R_bound HR6.out)
  refine Kd.V_mono (Kd.V_step h1 (fun k hk hl=>?_)) (fun k hk=>by rw [hX4];exact .inr ⟨hk.2.1,by have:=hk.2.2.1;omega,hk.1⟩)
  rw [hfar k hk.1,HB4.out.block k hl]
 have hb9:BX W8 X4 (.slice B9 lh.length d9) lh:=by
  have h1:=Kd.V_bound HV4.out
  refine Kd.V_mono (Kd.V_step h1 (fun k hk hl=>?_)) (fun k hk=>?_)
  ·refine hfar k ?_
   rcases hk.1 with (hk1|hk1)|hk1
   ·have:=hk1.2
    omega
   ·have:=hk1.2
    omega
   ·omega
  ·rw [hX4]
   rcases hk.1 with (hk1|hk1)|hk1
   ·exact .inl hk1.1
   ·exact .inl hk1.1
   ·exact .inr ⟨by omega,hk.2,by omega⟩
 have HGR:=z_ (show Grew w X X4 from fun k hk=>by
  rw [hX4] at hk
  exact hk.imp id (fun h=>h.1))
 have HB08:=z_ hB08
 have hput:=put_calls hM5 ⟨false,[],[],0,depth,c5,nw,left,right,lh⟩ none none B5 B9 0 0 d5 d9 (Kd.V_nil _ _ _ _ _) (Kd.V_nil _ _ _ _ _) hb5 hb9
 clear hM5 hb5 hb9 hX4 hsepX hownlt hfar hsz hB08 hB07 s6 s4 hW8 hge hgW2
 refine hput.mono ?_
 rintro e5 w9 hpost
 have HPO:=z_ hpost
 clear hpost hput
 by_cases hfull:(usedN cs:Int)=room
 ·have hp:=HPO.out
  rw [if_pos hfull] at hp
  obtain ⟨rfl,hp⟩:=hp
  have HP:=z_ hp
  have HFU:=z_ hfull
  clear hp HPO hfull
  go_wp2_with fail
  go_ret2
  exact ⟨fun h=>absurd h HC.out,fun _ _=>⟨rfl,HP.out.start HGR.out HB08.out HBW.out.1⟩,fun _ h=>absurd HFU.out h⟩
 ·have hp:=HPO.out
  rw [if_neg hfull] at hp
  obtain ⟨rfl,hp⟩:=hp
  have HP:=z_ hp
  have HFU:=z_ hfull
  clear hp HPO hfull
  go_wp2_with fail
  go_ret2
  refine ⟨fun h=>absurd h HC.out,fun _ h=>absurd h HFU.out,fun _ _=>⟨rfl,?_⟩⟩
  rw [HOF.out]
  unfold forkNd
  rw [<-HNW.out,<-HC5.out,<-HLH.out]
  exact HP.out.start HGR.out HB08.out HBW.out.1
end Go.Proofs.YtdeneoknjeegbaaDoor.P
end
section
namespace Go.Proofs.YtdeneoknjeegbaaDoor.P
open Go.RowKit YtdeneoknjeegbaaDoorW.PrintWords YtdeneoknjeegbaaDoorW.PrintLast YtdeneoknjeegbaaDoorW.PrintMore
structure SwI (w wr:World) (base p gm n:Nat) (size room:Int) (vc vf vf':Value) (X:Nat->Prop) (ms:List Bool) (cs':Cs):Prop where
 m:ArenaM wr base p size room vc vf' X cs'
 g:Grew w (OwnS p vc vf) (OwnS p vc vf')
 k:Kept w wr (OwnS p vc vf)
 b:Below base w wr
 ms:MarksR wr w.heap.size (.slice (some ⟨gm,0,none⟩) n n) ms
 ng : ¬OwnS p vc vf' gm
def QBlk (w:World) (q:Nat) (size most:Int) (vl:Value):Prop:=w.heap[q]? = some (.cells #[.int .i64 size,.int .i64 most,vl] 80 (0,0))
theorem QBlk.below {w w1:World} {q:Nat} {size most:Int} {vl:Value} (h:QBlk w q size most vl) (hb:Below w.heap.size w w1):QBlk w1 q size most vl:=blk_below h hb
theorem QBlk.lt {w:World} {q:Nat} {size most:Int} {vl:Value} (h:QBlk w q size most vl):q<w.heap.size:=blk_lt h
theorem QBlk.cells {w:World} {q:Nat} {size most:Int} {vl:Value} (h:QBlk w q size most vl):w.cell? ⟨q,0,none⟩=some (.int .i64 size)/\w.cell? ⟨q,1,none⟩=some (.int .i64 most)/\w.cell? ⟨q,2,none⟩=some vl:=
 ⟨(blk_cell h 0).trans rfl,(blk_cell h 1).trans rfl,(blk_cell h 2).trans rfl⟩
abbrev RowsR (w:World) (base:Nat) (v:Value) (rows:List (List Value)):Prop:=Kd.R (Kd.raw 10) 39 w base (fun _=>True) v rows
theorem raw_row10 {w:World} {base:Nat} {v:Value} {rows:List (List Value)} (h:RowsR w base v rows) (k:Nat) (r:List Value) (hr:rows[k]? = some r):r.length=10/\∃g c,v = .slice (some ⟨g,0,none⟩) rows.length c/\∀j u,r[j]? = some u->w.cell? ⟨g,k*10+j,none⟩=some u:=by
 obtain ⟨A,c,rfl⟩:=Kd.R_slice h
 have hkl:=(List.getElem?_eq_some_iff.1 hr).1
 have hrd:=Kd.R_reads' h
 obtain ⟨ad,cc,e,hcl,hcK,hcc⟩:=Kd.C_get hrd.2.2 ([]:List Value) (k:Int) (by omega) (by omega)
 subst e
 obtain ⟨g,rfl⟩:=Kd.R_head h
 have h0:=hcK.1
 rw [Int.toNat_natCast,List.getD_eq_getElem?_getD,hr] at h0
 have h1:cc=r:=h0
 refine ⟨by rw [<-h1];exact hcl,g,c,rfl,fun j u hj=>?_⟩
 have:=hcc j u (by rw [h1];exact hj)
 rwa [Int.toNat_natCast,add_plain] at this
def node0:List Value:=[.bool false,.slice none 0 0,.slice none 0 0,.int .i64 0,.int .i64 0,.slice none 0 0,.int .i64 0,.int .i64 0,.int .i64 0,.slice none 0 0]
def NodeOk (w:World) (X:Nat->Prop):Option Nd->List Value->Prop
 | none,r=>r=node0
 | some n,r=>RowOf w X n r/\0<n.f9.length
theorem NodeOk.step {w w1:World} {X X1:Nat->Prop} {o:Option Nd} {r:List Value} (h:NodeOk w X o r) (hk : ∀k,X k->k<w.heap.size->w1.heap[k]? = w.heap[k]?) (hX : ∀k,X k->X1 k):NodeOk w1 X1 o r:=by
 cases o with
 | none=>exact h
 | some n=>exact ⟨h.1.step hk hX,h.2⟩
def OwnQ (q:Nat) (vl:Value) (k:Nat):Prop:=k=q\/some k=vl.ownBlock
structure RefV (w:World) (base q:Nat) (size most:Int) (vl:Value) (X:Nat->Prop) (rows:List (List Value)) (cs:Cs):Prop where
 blk:QBlk w q size most vl
 cells:RowsR w base vl rows
 len:rows.length=cs.length
 row : ∀(i:Nat) (o:Option Nd) (r:List Value),cs[i]? = some o->rows[i]? = some r->NodeOk w X o r
 sep : ∀k,X k->k<w.heap.size/\¬OwnQ q vl k
structure RefM (w:World) (base q:Nat) (size most:Int) (vl:Value) (X:Nat->Prop) (cs:Cs):Prop where
 mem : ∃rows,RefV w base q size most vl X rows cs
 hb:base<=q
 hs:1<=size/\size<=32
 hr:1<=most/\most<=4194304
 hl:(cs.length:Int)<=most
theorem RefV.own_lt {w:World} {base q:Nat} {size most:Int} {vl:Value} {X:Nat->Prop} {rows:List (List Value)} {cs:Cs} (h:RefV w base q size most vl X rows cs) (k:Nat) (hk:OwnQ q vl k):k<w.heap.size:=by
 rcases hk with rfl|hk
 ·exact h.blk.lt
 ·exact YtdeneoknjeegbaaDoorW.PrintWords.own_lt (Kd.R_own h.cells).choose_spec k hk.symm
theorem RefV.step {w w1:World} {base q:Nat} {size most:Int} {vl:Value} {X X1:Nat->Prop} {rows:List (List Value)} {cs:Cs} (hv:RefV w base q size most vl X rows cs) (hs:w.heap.size<=w1.heap.size) (hk : ∀k,k<w.heap.size->OwnQ q vl k\/X k->w1.heap[k]? = w.heap[k]?) (hX : ∀k,X k->X1 k) (hX1 : ∀k,X1 k->k<w1.heap.size/\¬OwnQ q vl k):RefV w1 base q size most vl X1 rows cs:=by
 refine ⟨(hk q hv.blk.lt (.inl (.inl rfl))).trans hv.blk,?_,hv.len,fun i o r hi hr=>(hv.row i o r hi hr).step (fun k hx hl=>hk k hl (.inr hx)) hX,hX1⟩
 exact Kd.R_mono (Kd.R_step (Kd.R_reok (ok:=fun k=>some k=vl.ownBlock) rfl hv.cells (fun k e=>e.symm)) (fun k hx hl=>hk k hl (.inl (.inr hx)))) (fun _ _=>trivial)
theorem RefV.below {w w1:World} {base q:Nat} {size most:Int} {vl:Value} {X:Nat->Prop} {rows:List (List Value)} {cs:Cs} (hv:RefV w base q size most vl X rows cs) (hb:Below w.heap.size w w1):RefV w1 base q size most vl X rows cs:=
 hv.step hb.size (fun k hk _=>hb.block k hk) (fun _ h=>h) (fun k hx=>⟨Nat.lt_of_lt_of_le (hv.sep k hx).1 hb.size,(hv.sep k hx).2⟩)
theorem RefM.step {w w1:World} {base q:Nat} {size most:Int} {vl:Value} {X X1:Nat->Prop} {cs:Cs} (h:RefM w base q size most vl X cs) (hs:w.heap.size<=w1.heap.size) (hk : ∀k,k<w.heap.size->OwnQ q vl k\/X k->w1.heap[k]? = w.heap[k]?) (hX : ∀k,X k->X1 k) (hX1 : ∀k,X1 k->k<w1.heap.size/\¬OwnQ q vl k):RefM w1 base q size most vl X1 cs:=by
 obtain ⟨rows,hv⟩:=h.mem
 exact ⟨⟨rows,hv.step hs hk hX hX1⟩,h.hb,h.hs,h.hr,h.hl⟩
theorem RefM.below {w w1:World} {base q:Nat} {size most:Int} {vl:Value} {X:Nat->Prop} {cs:Cs} (h:RefM w base q size most vl X cs) (hb:Below w.heap.size w w1):RefM w1 base q size most vl X cs:=by
 obtain ⟨rows,hv⟩:=h.mem
 exact h.step hb.size (fun k hk _=>hb.block k hk) (fun _ h=>h) (fun k hx=>⟨Nat.lt_of_lt_of_le (hv.sep k hx).1 hb.size,(hv.sep k hx).2⟩)
theorem RefM.base_le {w:World} {base q:Nat} {size most:Int} {vl:Value} {X:Nat->Prop} {cs:Cs} (h:RefM w base q size most vl X cs):base<=w.heap.size/\q<w.heap.size:=by
 obtain ⟨rows,hv⟩:=h.mem
 have:=hv.blk.lt
 have:=h.hb
 omega
def RefP (w w':World) (base q:Nat) (size most:Int) (vl:Value) (X:Nat->Prop) (cs:Cs):Prop:=
 ∃vl' X',RefM w' base q size most vl' X' cs/\Grew w (OwnQ q vl) (OwnQ q vl')/\Grew w X X'/\Kept w w' (OwnQ q vl)/\Below base w w'
theorem usedN_take : ∀(cs:Cs) (j:Nat) (o:Option Nd),cs[j]? = some o->usedN (cs.take (j+1))=usedN (cs.take j)+(if o.isSome then 1 else 0)
 | [],j,o,h=>by simp at h
 | x :: r,0,o,h=>by
   obtain rfl:x=o:=by simpa using h
   cases x<;>rfl
 | none :: r,j+1,o,h=>by
   simp only [List.take_succ_cons,usedN]
   exact usedN_take r j o (by simpa using h)
 | some _ :: r,j+1,o,h=>by
   simp only [List.take_succ_cons,usedN]
   rw [usedN_take r j o (by simpa using h)]
   omega
theorem nodeAt_get {cs:Cs} {j:Nat} {o:Option Nd} (h:cs[j]? = some o):nodeAt cs (j:Int)=o:=by
 unfold nodeAt
 rw [if_pos (by omega),Int.toNat_natCast,h]
 rfl
structure RPutPost (w w':World) (base q:Nat) (size most:Int) (vl:Value) (X:Nat->Prop) (cs:Cs) (n:Nd) (e:Ending):Prop where
 full:(usedN cs:Int)=most->e = .returned (.tuple #[.int .i64 0,.int .i64 4])/\RefP w w' base q size most vl X cs
 more:(usedN cs:Int)≠most->e = .returned (.tuple #[.int .i64 (lowN cs:Int),.int .i64 0])/\RefP w w' base q size most vl X (putC cs n)
end Go.Proofs.YtdeneoknjeegbaaDoor.P
end
section
namespace Go.Proofs.YtdeneoknjeegbaaDoor.P
open Go.RowKit YtdeneoknjeegbaaDoor.Pure YtdeneoknjeegbaaDoorW.PrintWords YtdeneoknjeegbaaDoorW.PrintLast YtdeneoknjeegbaaDoorW.PrintMore
structure RPost (c:Prop) (w w':World) (base q:Nat) (size most:Int) (vl:Value) (X:Nat->Prop) (cs:Cs) (n:Nd) (e:Ending):Prop where
 bad:c->e = .returned (.tuple #[.int .i64 0,.int .i64 1])/\RefP w w' base q size most vl X cs
 full : ¬c->(usedN cs:Int)=most->e = .returned (.tuple #[.int .i64 0,.int .i64 4])/\RefP w w' base q size most vl X cs
 ok : ¬c->(usedN cs:Int)≠most->e = .returned (.tuple #[.int .i64 (lowN cs:Int),.int .i64 0])/\RefP w w' base q size most vl X (putC cs n)

theorem nodeAt_some {cs:Cs} {i:Int} {n:Nd} (h:nodeAt cs i=some n) : ∃k:Nat,i=(k:Int)/\cs[k]? = some (some n):=by
 have h1:=nodeAt_lt (cs:=cs) (i:=i) (by rw [h];rfl)
 refine ⟨i.toNat,by omega,?_⟩
 unfold nodeAt at h
 rw [if_pos h1.1,List.getElem?_eq_getElem h1.2] at h
 rw [List.getElem?_eq_getElem h1.2]
 exact congrArg some h
end Go.Proofs.YtdeneoknjeegbaaDoor.P
end
section
namespace Go.Proofs.YtdeneoknjeegbaaDoor.P
open Go.RowKit YtdeneoknjeegbaaDoor.Pure YtdeneoknjeegbaaDoorW.PrintWords YtdeneoknjeegbaaDoorW.PrintLast YtdeneoknjeegbaaDoorW.PrintMore
attribute [local go_sem] max2_int min2_int max_two min_two

end Go.Proofs.YtdeneoknjeegbaaDoor.P
end
section
namespace Go.Proofs.YtdeneoknjeegbaaDoor.P
open Go.RowKit YtdeneoknjeegbaaDoorW.PrintWords YtdeneoknjeegbaaDoorW.PrintLast YtdeneoknjeegbaaDoorW.PrintMore
structure RwI (w wr:World) (base q gm n:Nat) (size most:Int) (vl:Value) (X:Nat->Prop) (ms:List Bool) (cs':Cs):Prop where
 m:RefM wr base q size most vl X cs'
 k:Kept w wr (OwnQ q vl)
 b:Below base w wr
 ms:MarksR wr w.heap.size (.slice (some ⟨gm,0,none⟩) n n) ms
end Go.Proofs.YtdeneoknjeegbaaDoor.P
end
section
namespace Go.Proofs.YtdeneoknjeegbaaDoor.P
open Go.RowKit YtdeneoknjeegbaaDoor.Pure YtdeneoknjeegbaaDoorW.PrintWords YtdeneoknjeegbaaDoorW.PrintLast YtdeneoknjeegbaaDoorW.PrintMore
theorem cut_twice : ∀s:Fin 8,∀x:Fin 256,Go.bits .and .u8 (Go.bits .and .u8 (x.val:Int) (255*2^s.val%256)) (255*2^s.val%256)=Go.bits .and .u8 (x.val:Int) (255*2^s.val%256):=by decide +kernel
theorem cutByte_idem (x:Int) (o:Nat) (ho:0<o/\o<8) (hx:0<=x/\x<=255):cutByte (cutByte x (o:Int)) (o:Int)=cutByte x (o:Int):=by
 unfold cutByte
 have:=cut_twice ⟨8-o,by omega⟩ ⟨x.toNat,by omega⟩
 simp only [Int.toNat_of_nonneg hx.1] at this
 rw [show (8-(o:Int)).toNat=8-o by omega]
 exact this
theorem firstB_idem (l:List Int) (hb:BytesOk l) (a:Int):firstB (firstB l a) a=firstB l a:=by
 by_cases h8:8*(l.length:Int)<=a
 ·have:firstB l a=l:=by unfold firstB;rw [if_pos h8]
  rw [this,this]
 by_cases h1:a<1
 ·have:firstB l a = []:=by unfold firstB;rw [if_neg h8,if_pos h1]
  rw [this]
  unfold firstB
  (repeat' split)<;>first|rfl|omega
 have e1:firstB l a=firstBits l a.toNat:=by unfold firstB;rw [if_neg h8,if_neg h1]
 obtain ⟨n,hn⟩ : ∃n,n=a.toNat:=⟨_,rfl⟩
 obtain ⟨m,hm⟩ : ∃m,m=bitBytes n:=⟨_,rfl⟩
 have hm':m=(n-1)/8+1:=hm
 have hml:m<=l.length:=by omega
 rw [e1]
 by_cases h0:n%8=0
 ·have e2:firstBits l a.toNat=l.take m:=by unfold firstBits;rw [<-hn,if_pos h0,<-hm]
  rw [e2]
  unfold firstB
  rw [if_pos (by rw [List.length_take];omega)]
 ·obtain ⟨t,ht⟩ : ∃t,t=l.take m:=⟨_,rfl⟩
  have htl:t.length=m:=by rw [ht,List.length_take];omega
  have e2:firstBits l a.toNat=t.set (m-1) (cutByte (t.getD (m-1) 0) ((n%8:Nat):Int)):=by unfold firstBits;rw [<-hn,if_neg h0,<-hm,<-ht]
  have hx:0<=t.getD (m-1) 0/\t.getD (m-1) 0<=255:=BytesOk.get (show BytesOk t from fun x hx=>hb x (by rw [ht] at hx;exact List.mem_of_mem_take hx)) _
  obtain ⟨y,hy⟩ : ∃y,y=cutByte (t.getD (m-1) 0) ((n%8:Nat):Int):=⟨_,rfl⟩
  have hyy:cutByte y ((n%8:Nat):Int)=y:=by rw [hy];exact cutByte_idem _ _ (by omega) hx
  rw [e2,<-hy]
  unfold firstB
  rw [if_neg (by rw [List.length_set,htl];omega),if_neg h1]
  unfold firstBits
  rw [<-hn,if_neg h0,<-hm,List.take_of_length_le (by rw [List.length_set,htl];omega),List.getD_eq_getElem?_getD,List.getElem?_set_self (by omega)]
  simp only [Option.getD_some]
  rw [hyy,List.set_set]
theorem wordByte_ok (ws:List Int) (i:Nat):0<=wordByte ws i/\wordByte ws i<=255:=by
 unfold wordByte
 omega
theorem outB_ok (ws:List Int) : ∀k,BytesOk (outB ws k)
 | 0=>fun x hx=>by
   have:=List.eq_of_mem_replicate hx
   omega
 | k+1=>fun x hx=>by
   rcases List.mem_or_eq_of_mem_set hx with h|rfl
   ·exact outB_ok ws k x h
   ·exact wordByte_ok ws k
theorem hashB_ok (size tag:Int) (parts:List (List Int)):BytesOk (hashB size tag parts):=by
 unfold hashB
 split
 ·intro x hx;cases hx
 ·intro x hx
  exact outB_ok _ 32 x (List.mem_of_mem_take hx)
theorem hashB_le (size tag:Int) (parts:List (List Int)):(hashB size tag parts).length<=32:=by
 unfold hashB
 split
 ·simp
 ·rw [List.length_take,shaSum_length]
  omega
def CsOk (cs:Cs):Prop:=∀n,some n∈cs->NdLen n/\BytesOk n.f9
theorem nodeAt_mem {cs:Cs} {i:Int} {n:Nd} (h:nodeAt cs i=some n):some n∈cs:=by
 obtain ⟨k,rfl,hk⟩:=nodeAt_some h
 exact List.mem_of_getElem? hk
theorem CsOk.nil:CsOk []:=fun n h=>by cases h
theorem CsOk.at {cs:Cs} (h:CsOk cs) (i:Int) (n:Nd) (hn:nodeAt cs i=some n):NdLen n/\BytesOk n.f9:=h n (nodeAt_mem hn)
theorem CsOk.put {cs:Cs} (h:CsOk cs) {n:Nd} (hn:NdLen n/\BytesOk n.f9):CsOk (putC cs n):=by
 unfold putC
 split
 ·intro m hm
  rcases List.mem_or_eq_of_mem_set hm with h1|h1
  ·exact h m h1
  ·obtain rfl:=Option.some.inj h1
   exact hn
 ·intro m hm
  rcases List.mem_append.1 hm with h1|h1
  ·exact h m h1
  ·obtain rfl:m=n:=by simpa using h1
   exact hn
theorem leafNd_ok (size:Int) (l1 l2:List Int) (since:Int) (h1:l1.length<=65535) (h2:l2.length<=65535):NdLen (leafNd size l1 l2 since)/\BytesOk (leafNd size l1 l2 since).f9:=
 ⟨⟨h1,h2,Nat.zero_le _,Nat.le_trans (hashB_le _ _ _) (by decide)⟩,hashB_ok _ _ _⟩
theorem forkNd_ok (size depth:Int) (pr:List Int) (left right:Int) (nl nr:Nd) (h1:pr.length<=65535):NdLen (forkNd size depth pr left right nl nr)/\BytesOk (forkNd size depth pr left right nl nr).f9:=
 ⟨⟨Nat.zero_le _,Nat.zero_le _,Nat.le_trans (firstB_length _ _) h1,Nat.le_trans (hashB_le _ _ _) (by decide)⟩,hashB_ok _ _ _⟩
theorem forkOf_ok {cs:Cs} (size depth:Int) (pr:List Int) (left right:Int) (h : ¬forkBad cs depth pr left right):NdLen (forkOf size cs depth pr left right)/\BytesOk (forkOf size cs depth pr left right).f9:=by
 unfold forkOf
 have h1:pr.length<=65535:=by
  rcases Nat.lt_or_ge 65535 pr.length with hl|hl
  ·exact absurd (.inr (.inr (.inl hl))) h
  ·exact hl
 cases hl:nodeAt cs left with
 | none=>exact absurd (.inr (.inr (.inr (.inl hl)))) h
 | some nl=>
   cases hr:nodeAt cs right with
   | none=>exact absurd (.inr (.inr (.inr (.inr hr)))) h
   | some nr=>exact forkNd_ok _ _ _ _ _ _ _ h1
structure Pr (w:World) (base p q:Nat) (size room:Int) (vc vf vl:Value) (X:Nat->Prop) (cs cs2:Cs):Prop where
 a:ArenaM w base p size room vc vf X cs
 r:RefM w base q size room vl X cs2
 apart : ∀k,OwnS p vc vf k->¬OwnQ q vl k
theorem ArenaM.sep {w:World} {base p:Nat} {size room:Int} {vc vf:Value} {X:Nat->Prop} {cs:Cs} (h:ArenaM w base p size room vc vf X cs) (k:Nat) (hk:X k):k<w.heap.size/\¬OwnS p vc vf k:=by
 obtain ⟨rows,fr,hv⟩:=h.mem
 exact hv.sep k hk
theorem ArenaM.own {w:World} {base p:Nat} {size room:Int} {vc vf:Value} {X:Nat->Prop} {cs:Cs} (h:ArenaM w base p size room vc vf X cs) (k:Nat) (hk:OwnS p vc vf k):k<w.heap.size:=by
 obtain ⟨rows,fr,hv⟩:=h.mem
 exact hv.own_lt k hk
theorem RefM.sep {w:World} {base q:Nat} {size most:Int} {vl:Value} {X:Nat->Prop} {cs:Cs} (h:RefM w base q size most vl X cs) (k:Nat) (hk:X k):k<w.heap.size/\¬OwnQ q vl k:=by
 obtain ⟨rows,hv⟩:=h.mem
 exact hv.sep k hk
theorem RefM.own {w:World} {base q:Nat} {size most:Int} {vl:Value} {X:Nat->Prop} {cs:Cs} (h:RefM w base q size most vl X cs) (k:Nat) (hk:OwnQ q vl k):k<w.heap.size:=by
 obtain ⟨rows,hv⟩:=h.mem
 exact hv.own_lt k hk
theorem Pr.below {w w1:World} {base p q:Nat} {size room:Int} {vc vf vl:Value} {X:Nat->Prop} {cs cs2:Cs} (h:Pr w base p q size room vc vf vl X cs cs2) (hb:Below w.heap.size w w1):Pr w1 base p q size room vc vf vl X cs cs2:=
 ⟨h.a.below hb,h.r.below hb,h.apart⟩
structure Step (w w':World) (base p q:Nat) (size room:Int) (vc vf vl:Value) (X X':Nat->Prop) (cs cs2:Cs):Prop where
 pr:Pr w' base p q size room vc vf vl X' cs cs2
 sub : ∀k,X k->X' k
 low:Below base w w'
 same : ∀k,X k->w'.heap[k]? = w.heap[k]?
end Go.Proofs.YtdeneoknjeegbaaDoor.P
end
section
namespace Go.Proofs.YtdeneoknjeegbaaDoor.P
open Go.RowKit YtdeneoknjeegbaaDoorW.PrintWords YtdeneoknjeegbaaDoorW.PrintLast YtdeneoknjeegbaaDoorW.PrintMore
def newBad (size room:Int):Prop:=size<1\/32<size\/room<1\/4194304<room
end Go.Proofs.YtdeneoknjeegbaaDoor.P
end
section
namespace Go.Proofs.YtdeneoknjeegbaaDoor.P
open Go.RowKit YtdeneoknjeegbaaDoor.Pure YtdeneoknjeegbaaDoorW.PrintWords YtdeneoknjeegbaaDoorW.PrintLast YtdeneoknjeegbaaDoorW.PrintMore
def PutOut (c:Prop) (cs:Cs) (room:Int) (n:Nd) (i er:Int) (cs':Cs):Prop:=(c/\i=0/\er=1/\cs'=cs)\/(¬c/\(usedN cs:Int)=room/\i=0/\er=4/\cs'=cs)\/(¬c/\(usedN cs:Int)≠room/\i=(lowN cs:Int)/\er=0/\cs'=putC cs n)
theorem PutOut.same {c:Prop} {cs:Cs} {room:Int} {n:Nd} {i er j f:Int} {cs1 cs2:Cs} (h:PutOut c cs room n i er cs1) (k:PutOut c cs room n j f cs2):j=i/\f=er/\cs2=cs1:=by
 rcases h with ⟨h1,rfl,rfl,rfl⟩|⟨h1,h2,rfl,rfl,rfl⟩|⟨h1,h2,rfl,rfl,rfl⟩<;>rcases k with ⟨k1,rfl,rfl,rfl⟩|⟨k1,k2,rfl,rfl,rfl⟩|⟨k1,k2,rfl,rfl,rfl⟩<;>first|exact ⟨rfl,rfl,rfl⟩|exact absurd h1 k1|exact absurd k1 h1|exact absurd h2 k2|exact absurd k2 h2
theorem PutOut.ok {c:Prop} {cs:Cs} {room:Int} {n:Nd} {i er:Int} {cs1:Cs} (h:PutOut c cs room n i er cs1) (hcs:CsOk cs) (hn : ¬c->NdLen n/\BytesOk n.f9):CsOk cs1:=by
 rcases h with ⟨h1,rfl,rfl,rfl⟩|⟨h1,h2,rfl,rfl,rfl⟩|⟨h1,h2,rfl,rfl,rfl⟩
 ·exact hcs
 ·exact hcs
 ·exact hcs.put (hn h1)
theorem PutPost.out {c:Prop} {w w':World} {base p:Nat} {size room:Int} {vc vf:Value} {X:Nat->Prop} {cs:Cs} {n:Nd} {e:Ending} (h:PutPost c w w' base p size room vc vf X cs n e) : ∃i er cs',PutOut c cs room n i er cs'/\e = .returned (.tuple #[.int .i64 i,.int .i64 er])/\ArenaP w w' base p size room vc vf X cs':=by
 by_cases hc:c
 ·exact ⟨0,1,cs,.inl ⟨hc,rfl,rfl,rfl⟩,h.bad hc⟩
 ·by_cases hf:(usedN cs:Int)=room
  ·exact ⟨0,4,cs,.inr (.inl ⟨hc,hf,rfl,rfl,rfl⟩),h.full hc hf⟩
  ·exact ⟨_,0,_,.inr (.inr ⟨hc,hf,rfl,rfl,rfl⟩),h.ok hc hf⟩
theorem RPost.out {c:Prop} {w w':World} {base q:Nat} {size room:Int} {vl:Value} {X:Nat->Prop} {cs:Cs} {n:Nd} {e:Ending} (h:RPost c w w' base q size room vl X cs n e) : ∃i er cs',PutOut c cs room n i er cs'/\e = .returned (.tuple #[.int .i64 i,.int .i64 er])/\RefP w w' base q size room vl X cs':=by
 by_cases hc:c
 ·exact ⟨0,1,cs,.inl ⟨hc,rfl,rfl,rfl⟩,h.bad hc⟩
 ·by_cases hf:(usedN cs:Int)=room
  ·exact ⟨0,4,cs,.inr (.inl ⟨hc,hf,rfl,rfl,rfl⟩),h.full hc hf⟩
  ·exact ⟨_,0,_,.inr (.inr ⟨hc,hf,rfl,rfl,rfl⟩),h.ok hc hf⟩
theorem Step.ints {w w':World} {base p q:Nat} {size room:Int} {vc vf vl:Value} {X X':Nat->Prop} {cs cs2:Cs} (h:Step w w' base p q size room vc vf vl X X' cs cs2) {v:Value} {l:List Int} (hb:Kd.V (Kd.int .i64) 3 w 0 X v l):Kd.V (Kd.int .i64) 3 w' 0 X' v l:=
 Kd.V_mono (Kd.V_step hb (fun k hk _=>h.same k hk)) h.sub
theorem Step.trans {w w1 w2:World} {base p q:Nat} {size room:Int} {vc vf vl vc' vf' vl':Value} {X X1 X2:Nat->Prop} {cs cs2 cs3 cs4:Cs} (h:Step w w1 base p q size room vc vf vl X X1 cs cs2) (k:Step w1 w2 base p q size room vc' vf' vl' X1 X2 cs3 cs4):Step w w2 base p q size room vc' vf' vl' X X2 cs3 cs4:=
 ⟨k.pr,fun i hi=>k.sub i (h.sub i hi),h.low.trans k.low,fun i hi=>(k.same i (h.sub i hi)).trans (h.same i hi)⟩
theorem GlobS.step {w w':World} {base p q:Nat} {size room:Int} {vc vf vl:Value} {X X':Nat->Prop} {cs cs2:Cs} (h:Step w w' base p q size room vc vf vl X X' cs cs2) {w0:World} (hb:base=w0.heap.size) (hg:GlobS w0) (h0:Below base w0 w):GlobS w':=by
 subst hb
 exact GlobS.of hg (h0.trans h.low)
theorem Step.below {w w1 w2:World} {base p q:Nat} {size room:Int} {vc vf vl:Value} {X X':Nat->Prop} {cs cs2:Cs} (h:Step w w1 base p q size room vc vf vl X X' cs cs2) (hb:Below w1.heap.size w1 w2):Step w w2 base p q size room vc vf vl X X' cs cs2:=
 ⟨h.pr.below hb,h.sub,h.low.trans (hb.mono h.pr.a.base_le.1),fun k hk=>(hb.block k (h.pr.a.sep k (h.sub k hk)).1).trans (h.same k hk)⟩
theorem Step.roots {w w':World} {base p q:Nat} {size room:Int} {vc vf vl:Value} {X X':Nat->Prop} {cs cs2:Cs} (h:Step w w' base p q size room vc vf vl X X' cs cs2) {v:Value} {l:List Int} (hb:Kd.V (Kd.int .i64) 3 w 0 X v l):Kd.V (Kd.int .i64) 3 w' 0 (fun k=>k<w'.heap.size) v l:=
 Kd.V_mono (h.ints hb) (fun k hk=>(h.pr.a.sep k hk).1)
end Go.Proofs.YtdeneoknjeegbaaDoor.P
end
section
namespace Go.Proofs.YtdeneoknjeegbaaDoor.P
open Go.RowKit YtdeneoknjeegbaaDoorW.PrintWords YtdeneoknjeegbaaDoorW.PrintLast YtdeneoknjeegbaaDoorW.PrintMore

end Go.Proofs.YtdeneoknjeegbaaDoor.P
end
section
namespace Go.Proofs.YtdeneoknjeegbaaDoor.P
open Go.RowKit YtdeneoknjeegbaaDoorW.PrintWords YtdeneoknjeegbaaDoorW.PrintLast YtdeneoknjeegbaaDoorW.PrintMore
attribute [local go_sem] max2_int min2_int max_two min_two max_three min_three max_four min_four
def bytes_Equal.f (l0:List Int) (l1:List Int):Option (Bool):=some ((strOfNums l0).toList==(strOfNums l1).toList)
set_option maxHeartbeats 8000000 in
set_option maxRecDepth 100000 in
theorem bytes_Equal.calls (A0:Option Addr) (c0:Nat) (l0:List Int) (A1:Option Addr) (c1:Nat) (l1:List Int) (r:Bool) (w:World) (hr0:Kd.C (Kd.int .u8) w A0 l0.length l0) (hc0:l0.length<=c0) (hr1:Kd.C (Kd.int .u8) w A1 l1.length l1) (hc1:l1.length<=c1) (h:bytes_Equal.f l0 l1=some r):
 Calls Tryd.prog 29 #[.slice A0 l0.length c0,.slice A1 l1.length c1] w fun e w'=>e = .returned (.bool r)/\Drawn0 w w':=by
 have HR0:=z_ hr0
 have HC0:=z_ hc0
 clear hr0 hc0
 have HR1:=z_ hr1
 have HC1:=z_ hc1
 clear hr1 hc1
 have H:(some ((strOfNums l0).toList==(strOfNums l1).toList))=some r:=h
 clear h
 obtain rfl:=Option.some.inj H
 have hcv3:=Kd.C_string (P:=Tryd.prog) (A:=A0) (c:=c0) Tryd.underlying31 Tryd.underlying5 Tryd.underlying9 HR0.out
 have hcv4:=Kd.C_string (P:=Tryd.prog) (A:=A1) (c:=c1) Tryd.underlying31 Tryd.underlying5 Tryd.underlying9 HR1.out
 go_enter Tryd.func29,Tryd.ntmps29
 go_wp2
 go_ret
 exact ⟨by first|rfl|(simp;done)|(simp [*];done),by repeat (first|exact Drawn0.refl _|apply Drawn0.step)⟩
end Go.Proofs.YtdeneoknjeegbaaDoor.P
end
section
namespace Go.Proofs.YtdeneoknjeegbaaDoor.P
open Go.RowKit YtdeneoknjeegbaaDoor.Pure YtdeneoknjeegbaaDoorW.PrintWords YtdeneoknjeegbaaDoorW.PrintLast YtdeneoknjeegbaaDoorW.PrintMore
theorem NodeV.all {w':World} {Y:Nat->Prop} {o:Option Nd} {e:Ending} (h:NodeV w' Y o e) : ∃n b,n=o.getD z39/\b=o.isSome/\∃(A1 A2 A5 A9:Option Addr) (c1 c2 c5 c9:Nat),e = .returned (.tuple #[.agg #[.bool n.f0,.slice A1 n.f1.length c1,.slice A2 n.f2.length c2,.int .i64 n.f3,.int .i64 n.f4,.slice A5 n.f5.length c5,.int .i64 n.f6,.int .i64 n.f7,.int .i64 n.f8,.slice A9 n.f9.length c9],.bool b])/\BX w' Y (.slice A1 n.f1.length c1) n.f1/\BX w' Y (.slice A2 n.f2.length c2) n.f2/\BX w' Y (.slice A5 n.f5.length c5) n.f5/\BX w' Y (.slice A9 n.f9.length c9) n.f9:=by
 cases o with
 | none=>exact ⟨_,_,rfl,rfl,none,none,none,none,0,0,0,0,h,Kd.V_nil _ _ _ _ _,Kd.V_nil _ _ _ _ _,Kd.V_nil _ _ _ _ _,Kd.V_nil _ _ _ _ _⟩
 | some n=>exact ⟨n,true,rfl,rfl,h⟩
theorem equal_same (l:List Int):bytes_Equal.f l l=some true:=by
 unfold bytes_Equal.f
 rw [beq_self_eq_true]
theorem strNum_eq {a b:List Int} (ha:BytesOk a) (hb:BytesOk b):((strOfNums a).toList==(strOfNums b).toList)=decide (a=b):=by
 have key : ∀ {a b:List Int},BytesOk a->BytesOk b->(a.map fun n=>UInt8.ofNat n.toNat)=(b.map fun n=>UInt8.ofNat n.toNat)->a=b:=by
  intro a
  induction a with
  | nil=>intro b _ _ h;cases b<;>simp_all
  | cons x xs ih=>
    intro b ha hb h
    cases b with
    | nil=>simp at h
    | cons y ys=>
      simp only [List.map_cons,List.cons.injEq] at h
      have hx:=ha x (by simp)
      have hy:=hb y (by simp)
      have h1:=congrArg UInt8.toNat h.1
      simp only [UInt8.toNat_ofNat'] at h1
      have h2:=ih (fun z hz=>ha z (List.mem_cons_of_mem _ hz)) (fun z hz=>hb z (List.mem_cons_of_mem _ hz)) h.2
      rw [h2,show x=y by omega]
 rw [ByteArray.toList_eq,ByteArray.toList_eq,strOfNums_data,strOfNums_data,Bool.eq_iff_iff,beq_iff_eq,decide_eq_true_eq]
 exact ⟨key ha hb,fun h=>by rw [h]⟩
def beginsB (l p:List Int) (n:Int):Bool:=if n<1 then true else if n<=8*(min l.length p.length:Nat) then decide (n<=bcommon l p) else false
theorem begins_f (l p:List Int) (n:Int) (hl:l.length<=1000000000000):bits_Begins.f l p n=some (beginsB l p n):=by
 have hw:wrap64 (8*mn (l.length:Int) (p.length:Int))=8*((min l.length p.length:Nat):Int):=by
  unfold mn
  rw [wrap64_id _ (by split<;>omega)]
  split<;>omega
 unfold bits_Begins.f beginsB
 rw [hw]
 unfold bits_Common.f
 rw [if_pos hl]
 by_cases h1:n<1
 ·rw [if_pos h1,if_pos h1]
 ·rw [if_neg h1,if_neg h1]
  by_cases h2:n<=8*((min l.length p.length:Nat):Int)
  ·rw [if_pos h2,if_pos h2]
   rfl
  ·rw [if_neg h2,if_neg h2]
def bitP (l:List Int) (a:Int):Int:=(bits_Bit.f 1 l a).getD 0
theorem bit_f (k:Nat) (l:List Int) (a:Int):bits_Bit.f (k+1) l a=some (bitP l a):=by
 have h7:0<=Go.bits .and .i64 a 7:=by rw [and7];omega
 have key : ∀(k:Nat) (x:Bool),(x=false->0<=a/8/\a/8<(l.length:Int))->∃r,∀j,bits_Bit.j0 (j+1) l a x=some r:=by
  intro k x hx
  cases x with
  | true=>exact ⟨-1,fun j=>rfl⟩
  | false=>
    obtain ⟨h1,h2⟩:=hx rfl
    by_cases hz:Go.bits .and .u8 (rd l (a/8)) (shr .u8 128 (Go.bits .and .i64 a 7))=0
    ·exact ⟨0,fun j=>by simp only [bits_Bit.j0];rw [if_neg (by simp),if_pos h1,if_pos h2,if_pos h7,if_pos hz]⟩
    ·exact ⟨1,fun j=>by simp only [bits_Bit.j0];rw [if_neg (by simp),if_pos h1,if_pos h2,if_pos h7,if_neg hz]⟩
 unfold bitP bits_Bit.f
 by_cases h0:a<0
 ·simp only [if_pos h0]
  obtain ⟨r,hr⟩:=key 0 true (fun h=>by cases h)
  rw [hr k,hr 0]
  rfl
 ·simp only [if_neg h0]
  obtain ⟨r,hr⟩:=key 0 (decide (a/8>=(l.length:Int))) (fun h=>⟨by omega,by have:=of_decide_eq_false h;omega⟩)
  rw [hr k,hr 0]
  rfl
def belowB (n:Nd) (row:List Int):Int:=if bitP row n.f4=1 then n.f8 else n.f7
theorem below_f (k:Nat) (n:Nd) (row:List Int):ptree_below.f (k+1) n.f0 n.f1 n.f2 n.f3 n.f4 n.f5 n.f6 n.f7 n.f8 n.f9 row=some (belowB n row):=by
 unfold ptree_below.f belowB
 rw [bit_f]
 simp only [Option.bind_some]
 split<;>rfl
inductive PT
 | leaf (n:Nd)
 | fork (n:Nd) (l r:PT)
def PT.h:PT->Nat
 | .leaf _=>0
 | .fork _ l r=>max l.h r.h+1
def IsT (cs:Cs):Int->PT->Prop
 | i,.leaf n=>nodeAt cs i=some n/\n.f0=true
 | i,.fork n l r=>nodeAt cs i=some n/\n.f0=false/\IsT cs n.f7 l/\IsT cs n.f8 r
structure Spot where
 forks:List Nd
 at_:Int
 node:Nd
 same:Bool
def Spot.cons (n:Nd) (s:Spot):Spot:=⟨n :: s.forks,s.at_,s.node,s.same⟩
def findT (row id:List Int):Int->PT->Spot
 | i,.leaf n=>⟨[],i,n,decide (n.f1=id)⟩
 | i,.fork n l r=>if beginsB row n.f5 n.f4 then (if bitP row n.f4=1 then (findT row id n.f8 r).cons n else (findT row id n.f7 l).cons n) else ⟨[],i,n,false⟩
def findO (row id:List Int) (i:Int):Option PT->Spot
 | none=>⟨[],-1,z39,false⟩
 | some t=>findT row id i t
def IsO (cs:Cs) (i:Int):Option PT->Prop
 | none=>nodeAt cs i=none
 | some t=>IsT cs i t
def heightO:Option PT->Nat
 | none=>0
 | some t=>t.h
theorem formR {α:Type} {d:Kd α} {e base:Nat} {ok:Nat->Prop} {w:World} {v:Value} {xs:List α} (h:d.R e w base ok v xs) : ∃A n c,v = .slice A n c:=by
 obtain ⟨A,c,e⟩:=Kd.R_slice h
 exact ⟨A,_,c,e⟩
end Go.Proofs.YtdeneoknjeegbaaDoor.P
end
section
namespace Go.Proofs.YtdeneoknjeegbaaDoor.P
open Go.RowKit YtdeneoknjeegbaaDoorW.PrintWords YtdeneoknjeegbaaDoorW.PrintLast YtdeneoknjeegbaaDoorW.PrintMore
attribute [local go_sem] max2_int min2_int max_two min_two max_three min_three max_four min_four
def annalsref03_Bit.f (l0:List Int) (a1:Int):Option (Int):=if a1<0 then (some (-1)) else (if (wrap64 (Int.tdiv a1 8))>=(l0.length:Int) then (some (-1)) else (if 0<=(wrap64 (Int.tdiv a1 8)) then (if (wrap64 (Int.tdiv a1 8))<(l0.length:Int) then (if 0<=(wrap64 (7-(Int.tmod a1 8))) then (some (Go.bits .and .i64 (wrap64 (shr .u8 (rd l0 (wrap64 (Int.tdiv a1 8))) (wrap64 (7-(Int.tmod a1 8))))) 1)) else (none)) else (none)) else (none)))
def annalsref03_Common.l0:Nat->List Int->List Int->Int->Option (Int)
 | 0,_,_,_=>none
 | k+1,x0,x1,x5=>(annalsref03_Bit.f x0 x5).bind fun t370=>(if t370>=0 then ((annalsref03_Bit.f x0 x5).bind fun t371=>((annalsref03_Bit.f x1 x5).bind fun t372=>(if t371=t372 then (annalsref03_Common.l0 k x0 x1 (wrap64 (x5+1))) else (some x5)))) else (some x5))
def annalsref03_Common.f (k:Nat) (l0:List Int) (l1:List Int):Option (Int):=annalsref03_Common.l0 k l0 l1 0
theorem annalsref03_Common.mono_l : ∀k,(∀y0 y1 y2,LeO (annalsref03_Common.l0 k y0 y1 y2) (annalsref03_Common.l0 (k+1) y0 y1 y2))
 | 0=>fun _ _ _ r h=>by simp [annalsref03_Common.l0] at h
 | k+1=>by
   have ih0:=annalsref03_Common.mono_l k
   ·intro y0 y1 y2
    unfold annalsref03_Common.l0
    repeat' first
    | (with_reducible exact ih0 _ _ _)
    | (with_reducible exact LeO.refl _)
    | (with_reducible exact LeO.none _)
    | (with_reducible refine LeO.ite ?_ ?_)
    | (with_reducible refine LeO.bind ?_ (fun _=>?_))
    | exact ih0 _ _ _
    | exact LeO.none _
    | refine LeO.ite ?_ ?_
    | refine LeO.bind ?_ (fun _=>?_)
theorem annalsref03_Common.mono : ∀a0 a1 k,LeO (annalsref03_Common.f k a0 a1) (annalsref03_Common.f (k+1) a0 a1):=by
 intro a0 a1 k
 have ih0:=annalsref03_Common.mono_l k
 unfold annalsref03_Common.f
 repeat' first
  | (with_reducible exact ih0 _ _ _)
  | (with_reducible exact LeO.refl _)
  | (with_reducible exact LeO.none _)
  | (with_reducible refine LeO.ite ?_ ?_)
  | (with_reducible refine LeO.bind ?_ (fun _=>?_))
  | exact ih0 _ _ _
  | exact LeO.none _
  | refine LeO.ite ?_ ?_
  | refine LeO.bind ?_ (fun _=>?_)
def annalsref03_Begins.f (k:Nat) (l0:List Int) (l1:List Int) (a2:Int):Option (Bool):=if a2<1 then (some true) else (if (wrap64 (Int.tdiv a2 8))<=(l0.length:Int) then (if a2<=(wrap64 (8*(l0.length:Int))) then (if a2<=(wrap64 (8*(l1.length:Int))) then ((annalsref03_First.f k l0 a2).bind fun t373=>((annalsref03_First.f k l1 a2).bind fun t376=>((annalsref03_Common.f k t373 t376).bind fun t379=>(some (decide (t379>=a2)))))) else (some false)) else (some false)) else (some false))
theorem annalsref03_Begins.mono : ∀a0 a1 a2 k,LeO (annalsref03_Begins.f k a0 a1 a2) (annalsref03_Begins.f (k+1) a0 a1 a2):=by
 intro a0 a1 a2 k
 unfold annalsref03_Begins.f
 repeat' first
  | (with_reducible exact annalsref03_Common.mono _ _ _)
  | (with_reducible exact annalsref03_First.mono _ _ _)
  | (with_reducible exact LeO.refl _)
  | (with_reducible exact LeO.none _)
  | (with_reducible refine LeO.ite ?_ ?_)
  | (with_reducible refine LeO.bind ?_ (fun _=>?_))
  | exact annalsref03_Common.mono _ _ _
  | exact annalsref03_First.mono _ _ _
  | exact LeO.none _
  | refine LeO.ite ?_ ?_
  | refine LeO.bind ?_ (fun _=>?_)
end Go.Proofs.YtdeneoknjeegbaaDoor.P
end
section
namespace Go.Proofs.YtdeneoknjeegbaaDoor.P
open Go.RowKit YtdeneoknjeegbaaDoor.Pure YtdeneoknjeegbaaDoorW.PrintWords YtdeneoknjeegbaaDoorW.PrintLast YtdeneoknjeegbaaDoorW.PrintMore
def bitX (x:Int) (j:Nat):Int:=x/2^(7-j)%2
def bitN:List Int->Nat->Int
 | [],_=> -1
 | x :: xs,i=>if i<8 then bitX x i else bitN xs (i-8)
theorem bitX_range (x:Int) (j:Nat):0<=bitX x j/\bitX x j<=1:=by unfold bitX;omega
theorem bitN_at : ∀(l:List Int) (i:Nat),bitN l i=if i/8<l.length then bitX (l.getD (i/8) 0) (i%8) else -1
 | [],i=>by simp [bitN]
 | x :: xs,i=>by
   unfold bitN
   by_cases h:i<8
   ·rw [if_pos h,if_pos (by simp;omega),show i/8=0 by omega,show i%8=i by omega]
    rfl
   ·rw [if_neg h,bitN_at xs (i-8)]
    have h1:i/8=(i-8)/8+1:=by omega
    have h2:(i-8)%8=i%8:=by omega
    rw [h1,h2,List.length_cons]
    by_cases h3:(i-8)/8<xs.length
    ·rw [if_pos h3,if_pos (by omega)]
     rfl
    ·rw [if_neg h3,if_neg (by omega)]
theorem top_bit : ∀z:Fin 256,z.val≠0->Lib.bitLen z.val<=8/\0<Lib.bitLen z.val/\(∀j:Fin 8,j.val<8-Lib.bitLen z.val->z.val.testBit (7-j.val)=false)/\z.val.testBit (Lib.bitLen z.val-1)=true:=by decide +kernel
theorem bitX_test (x:Nat) (j:Nat):bitX (x:Int) j=((x.testBit (7-j)).toNat:Int):=by
 unfold bitX
 rw [Nat.toNat_testBit]
 norm_cast
theorem xor_nat (x y:Nat) (hx:x<256) (hy:y<256):(Go.bits .xor .u8 (x:Int) (y:Int)).toNat=x ^^^ y:=by
 rw [u8_xor_nat x y hx hy]
 exact Int.toNat_natCast _
theorem byte_part (x y:Int) (hx:0<=x/\x<=255) (hy:0<=y/\y<=255) (h:x≠y) : ∃d:Nat,d<8/\(8-(Lib.bitLen (Go.bits .xor .u8 x y).toNat:Int))=(d:Int)/\(∀j,j<d->bitX x j=bitX y j)/\bitX x d≠bitX y d:=by
 obtain ⟨a,rfl⟩:=Int.eq_ofNat_of_zero_le hx.1
 obtain ⟨b,rfl⟩:=Int.eq_ofNat_of_zero_le hy.1
 rw [xor_nat a b (by omega) (by omega)]
 have hz:a ^^^ b<256:=Nat.xor_lt_two_pow (n:=8) (by omega) (by omega)
 have hne:a ^^^ b≠0:=fun he=>h (by
  have:a=b:=Nat.eq_of_testBit_eq (fun i=>by
   have h0:=congrArg (fun q:Nat=>q.testBit i) he
   simp only [Nat.testBit_xor,Nat.zero_testBit] at h0
   cases ha:a.testBit i<;>cases hb:b.testBit i<;>simp_all)
  rw [this])
 obtain ⟨h1,h2,h3,h4⟩:=top_bit ⟨a ^^^ b,hz⟩ hne
 simp only at h1 h2 h3 h4
 refine ⟨8-Lib.bitLen (a ^^^ b),by omega,by omega,fun j hj=>?_,?_⟩
 ·have:=h3 ⟨j,by omega⟩ hj
  simp only [Nat.testBit_xor] at this
  rw [bitX_test,bitX_test]
  cases ha:a.testBit (7-j)<;>cases hb:b.testBit (7-j)<;>simp_all
 ·rw [show Lib.bitLen (a ^^^ b)-1=7-(8-Lib.bitLen (a ^^^ b)) by omega] at h4
  rw [bitX_test,bitX_test]
  simp only [Nat.testBit_xor] at h4
  cases ha:a.testBit (7-(8-Lib.bitLen (a ^^^ b)))<;>cases hb:b.testBit (7-(8-Lib.bitLen (a ^^^ b)))<;>simp_all
theorem bcommon_spec : ∀(a b:List Int),BytesOk a->BytesOk b->∃m:Nat,bcommon a b=(m:Int)/\m<=8*min a.length b.length/\(∀i,i<m->bitN a i=bitN b i/\0<=bitN a i)/\(bitN a m<0\/bitN a m≠bitN b m)
 | [],b,_,_=>⟨0,rfl,by simp,fun i h=>absurd h (by omega),.inl (by simp [bitN])⟩
 | x :: xs,[],_,_=>⟨0,rfl,by simp,fun i h=>absurd h (by omega),.inr (by
  have:=(bitX_range x 0).1
  simp only [bitN]
  rw [if_pos (by omega)]
  omega)⟩
 | x :: xs,y :: ys,ha,hb=>by
   have hx:=ha x (by simp)
   have hy:=hb y (by simp)
   by_cases he:x=y
   ·subst he
    obtain ⟨m,h1,h2,h3,h4⟩:=bcommon_spec xs ys (fun z hz=>ha z (List.mem_cons_of_mem _ hz)) (fun z hz=>hb z (List.mem_cons_of_mem _ hz))
    refine ⟨8+m,?_,?_,fun i hi=>?_,?_⟩
    ·unfold bcommon
     rw [if_pos rfl,h1]
     omega
    ·simp only [List.length_cons]
     omega
    ·unfold bitN
     by_cases h8:i<8
     ·rw [if_pos h8,if_pos h8]
      exact ⟨rfl,(bitX_range _ _).1⟩
     ·rw [if_neg h8,if_neg h8]
      exact h3 (i-8) (by omega)
    ·unfold bitN
     rw [if_neg (by omega),if_neg (by omega),show 8+m-8=m by omega]
     exact h4
   ·obtain ⟨d,hd,h1,h2,h3⟩:=byte_part x y hx hy he
    refine ⟨d,?_,?_,fun i hi=>?_,?_⟩
    ·unfold bcommon
     rw [if_neg he,h1]
    ·simp only [List.length_cons]
     omega
    ·unfold bitN
     rw [if_pos (by omega),if_pos (by omega)]
     exact ⟨h2 i hi,(bitX_range _ _).1⟩
    ·right
     unfold bitN
     rw [if_pos hd,if_pos hd]
     exact h3
theorem common_ge {a b:List Int} (ha:BytesOk a) (hb:BytesOk b) (n:Nat):(n:Int)<=bcommon a b↔∀i,i<n->bitN a i=bitN b i/\0<=bitN a i:=by
 obtain ⟨m,h1,h2,h3,h4⟩:=bcommon_spec a b ha hb
 rw [h1]
 constructor
 ·intro h i hi
  exact h3 i (by omega)
 ·intro h
  rcases Nat.lt_or_ge m n with hlt|hge
  ·have:=h m hlt
   rcases h4 with h4|h4
   ·omega
   ·exact absurd this.1 h4
  ·omega
theorem andP_byte : ∀(x:Fin 256) (j:Fin 8),(if Go.bits .and .u8 (x.val:Int) (shr .u8 128 (j.val:Int))=0 then (0:Int) else 1)=(x.val:Int)/2^(7-j.val)%2:=by decide +kernel
theorem rd_nat (l:List Int) (i:Nat):rd l (i:Int)=l.getD i 0:=by unfold rd;rw [Int.toNat_natCast]
theorem bitN_eq (l:List Int) (i:Nat) (h:i/8<l.length):bitN l i=l.getD (i/8) 0/2^(7-i%8)%2:=by
 rw [bitN_at,if_pos h]
 rfl
theorem bitN_off (l:List Int) (i:Nat) (h:l.length<=i/8):bitN l i = -1:=by
 rw [bitN_at,if_neg (by omega)]
theorem bitP_eq (l:List Int) (hb:BytesOk l) (i:Nat):bitP l (i:Int)=bitN l i:=by
 unfold bitP bits_Bit.f
 rw [if_neg (by omega)]
 have hd:(i:Int)/8=((i/8:Nat):Int):=by omega
 rw [hd]
 by_cases h:l.length<=i/8
 ·rw [decide_eq_true (by omega),bitN_off l i h]
  rfl
 ·rw [decide_eq_false (by omega),bitN_eq l i (by omega)]
  simp only [bits_Bit.j0]
  rw [if_neg (by simp),hd,if_pos (by omega),if_pos (by omega),and7,if_pos (by omega),rd_nat]
  have hx:=BytesOk.get hb (i/8)
  have h8:=andP_byte ⟨(l.getD (i/8) 0).toNat,by omega⟩ ⟨i%8,by omega⟩
  simp only [Int.toNat_of_nonneg hx.1] at h8
  have hm:(i:Int)%8=((i%8:Nat):Int):=by omega
  rw [hm]
  rw [<-h8]
  split<;>rfl
theorem cut_bit : ∀(o:Fin 8) (x:Fin 256) (j:Fin 8),j.val<o.val->Go.bits .and .u8 (x.val:Int) (255*2^(8-o.val)%256)/2^(7-j.val)%2=(x.val:Int)/2^(7-j.val)%2:=by decide +kernel
theorem getD_take (l:List Int) (m j:Nat) (h:j<m):(l.take m).getD j 0=l.getD j 0:=by
 rw [List.getD_eq_getElem?_getD,List.getD_eq_getElem?_getD,List.getElem?_take,if_pos h]
theorem bitN_first (l:List Int) (hb:BytesOk l) (n:Nat) (h1:1<=n) (hn:n<=8*l.length) (i:Nat) (hi:i<n):bitN (firstB l (n:Int)) i=bitN l i:=by
 unfold firstB
 by_cases h8:8*(l.length:Int)<=(n:Int)
 ·rw [if_pos h8]
 rw [if_neg h8,if_neg (by omega),Int.toNat_natCast]
 obtain ⟨m,hm⟩ : ∃m,m=bitBytes n:=⟨_,rfl⟩
 have hm':m=(n-1)/8+1:=hm
 have htl:(l.take m).length=m:=by rw [List.length_take];omega
 have hil:i/8<l.length:=by omega
 unfold firstBits
 rw [<-hm]
 by_cases h0:n%8=0
 ·rw [if_pos h0,bitN_eq _ i (by rw [htl];omega),bitN_eq l i hil,getD_take l m _ (by omega)]
 ·rw [if_neg h0,bitN_eq _ i (by rw [List.length_set,htl];omega),bitN_eq l i hil]
  rw [List.getD_eq_getElem?_getD,List.getElem?_set]
  by_cases hj:m-1=i/8
  ·rw [if_pos hj,if_pos (by rw [htl];omega)]
   simp only [Option.getD_some]
   rw [hj,getD_take l m _ (by omega)]
   have hx:=BytesOk.get hb (i/8)
   have hc:=cut_bit ⟨n%8,by omega⟩ ⟨(l.getD (i/8) 0).toNat,by omega⟩ ⟨i%8,by omega⟩ (by simp only;omega)
   simp only [Int.toNat_of_nonneg hx.1] at hc
   unfold cutByte
   rw [show (8-((n%8:Nat):Int)).toNat=8-n%8 by omega]
   exact hc
  ·rw [if_neg hj,<-List.getD_eq_getElem?_getD,getD_take l m _ (by omega)]
theorem byte_ext (x y:Int) (hx:0<=x/\x<=255) (hy:0<=y/\y<=255) (h : ∀j,j<8->bitX x j=bitX y j):x=y:=by
 rcases Classical.em (x=y) with e|e
 ·exact e
 ·obtain ⟨d,hd,_,_,h3⟩:=byte_part x y hx hy e
  exact absurd (h d hd) h3
theorem bitN_lo (x:Int) (xs:List Int) (i:Nat) (h:i<8):bitN (x :: xs) i=bitX x i:=by
 unfold bitN
 rw [if_pos h]
theorem bitN_hi (x:Int) (xs:List Int) (i:Nat):bitN (x :: xs) (i+8)=bitN xs i:=by
 show (if i+8<8 then _ else bitN xs (i+8-8))=_
 rw [if_neg (by omega),show i+8-8=i by omega]
theorem bitN_valid (l:List Int) (i:Nat):0<=bitN l i↔i<8*l.length:=by
 rw [bitN_at]
 split
 ·have:=(bitX_range (l.getD (i/8) 0) (i%8)).1
  exact ⟨fun _=>by omega,fun _=>this⟩
 ·exact ⟨fun h=>by omega,fun h=>by omega⟩
theorem bitN_le1 (l:List Int) (i:Nat):bitN l i<=1:=by
 rw [bitN_at]
 split
 ·exact (bitX_range _ _).2
 ·omega
theorem bits_begin : ∀(a b:List Int),BytesOk a->BytesOk b->(∀i,i<8*a.length->bitN a i=bitN b i)->a=b.take a.length
 | [],b,_,_,_=>by simp
 | x :: xs,[],ha,hb,h=>by
   have:=h 0 (by simp)
   rw [bitN_lo _ _ _ (by omega)] at this
   have h1:=(bitX_range x 0).1
   simp only [bitN] at this
   omega
 | x :: xs,y :: ys,ha,hb,h=>by
   have hxy:x=y:=byte_ext x y (ha x (by simp)) (hb y (by simp)) (fun j hj=>by
    have:=h j (by simp;omega)
    rwa [bitN_lo _ _ _ hj,bitN_lo _ _ _ hj] at this)
   subst hxy
   have:=bits_begin xs ys (fun z hz=>ha z (List.mem_cons_of_mem _ hz)) (fun z hz=>hb z (List.mem_cons_of_mem _ hz)) (fun i hi=>by
    have:=h (i+8) (by simp;omega)
    rwa [bitN_hi,bitN_hi] at this)
   rw [List.length_cons,List.take_succ_cons,<-this]
theorem bits_ext {a b:List Int} (ha:BytesOk a) (hb:BytesOk b) (hl:a.length=b.length) (h : ∀i,i<8*a.length->bitN a i=bitN b i):a=b:=by
 have:=bits_begin a b ha hb h
 rwa [hl,List.take_length] at this
def IdOk (l:List Int):Prop:=BytesOk l/\l.length<=255
theorem keyB_bytes {l:List Int} (h:IdOk l):BytesOk (keyB l):=by
 intro x hx
 rcases List.mem_cons.1 hx with rfl|hx
 ·omega
 ·exact h.1 x (List.mem_of_mem_take hx)
theorem keyB_eq {l:List Int} (h:IdOk l):keyB l=(l.length:Int) :: l:=by
 unfold keyB
 rw [Nat.min_eq_left h.2,List.take_of_length_le h.2]
theorem keyB_length {l:List Int} (h:IdOk l):(keyB l).length=l.length+1:=by rw [keyB_eq h];rfl
theorem keyB_inj {a b:List Int} (ha:IdOk a) (hb:IdOk b) (h:keyB a=keyB b):a=b:=by
 rw [keyB_eq ha,keyB_eq hb] at h
 exact (List.cons.inj h).2
theorem key_same_len {a b:List Int} (ha:IdOk a) (hb:IdOk b) (h : ∀i,i<8->bitN (keyB a) i=bitN (keyB b) i):a.length=b.length:=by
 rw [keyB_eq ha,keyB_eq hb] at h
 have:=byte_ext (a.length:Int) (b.length:Int) ⟨by have:=ha.2;omega,by have:=ha.2;omega⟩ ⟨by have:=hb.2;omega,by have:=hb.2;omega⟩ (fun j hj=>by
  have:=h j hj
  rwa [bitN_lo _ _ _ hj,bitN_lo _ _ _ hj] at this)
 omega
theorem key_valid {a b:List Int} (ha:IdOk a) (hb:IdOk b) (d:Nat) (h : ∀i,i<d->bitN (keyB a) i=bitN (keyB b) i) (hd:d<8*(keyB b).length):d<8*(keyB a).length:=by
 rw [keyB_length ha]
 rcases Nat.lt_or_ge d 8 with h8|h8
 ·omega
 ·have:=key_same_len ha hb (fun i hi=>h i (by omega))
  rw [keyB_length hb] at hd
  omega
theorem key_part {a b:List Int} (ha:IdOk a) (hb:IdOk b) (hne:a≠b) : ∃m:Nat,bcommon (keyB a) (keyB b)=(m:Int)/\m<8*(keyB a).length/\m<8*(keyB b).length/\(∀i,i<m->bitN (keyB a) i=bitN (keyB b) i)/\bitN (keyB a) m≠bitN (keyB b) m:=by
 have oa:=keyB_bytes ha
 have ob:=keyB_bytes hb
 obtain ⟨m,h1,h2,h3,h4⟩:=bcommon_spec (keyB a) (keyB b) oa ob
 have hall : ∀i,i<m->bitN (keyB a) i=bitN (keyB b) i:=fun i hi=>(h3 i hi).1
 have hv : ∀(a b:List Int),IdOk a->IdOk b->a≠b->(∀i,i<m->bitN (keyB a) i=bitN (keyB b) i)->m<8*(keyB a).length:=by
  intro a b ha hb hne hall
  rcases Nat.lt_or_ge m (8*(keyB a).length) with h|h
  ·exact h
  ·exfalso
   have hl:=key_same_len ha hb (fun i hi=>hall i (by rw [keyB_length ha] at h;omega))
   have:=bits_ext (keyB_bytes ha) (keyB_bytes hb) (by rw [keyB_length ha,keyB_length hb,hl]) (fun i hi=>hall i (by omega))
   exact hne (keyB_inj ha hb this)
 have va:=hv a b ha hb hne hall
 have vb:=hv b a hb ha (Ne.symm hne) (fun i hi=>(hall i hi).symm)
 refine ⟨m,h1,va,vb,hall,?_⟩
 rcases h4 with h4|h4
 ·have:=(bitN_valid (keyB a) m).2 va
  omega
 ·exact h4
theorem firstB_len (l:List Int) (d:Nat) (h1:1<=d) (h2:d<=8*l.length):(firstB l (d:Int)).length=(d-1)/8+1:=by
 unfold firstB firstBits bitBytes
 by_cases h:8*(l.length:Int)<=(d:Int)
 ·rw [if_pos h]
  omega
 ·rw [if_neg h,if_neg (by omega),Int.toNat_natCast]
  split
  ·rw [List.length_take]
   omega
  ·rw [List.length_set,List.length_take]
   omega
theorem firstB_zero (l:List Int):l≠[]->firstB l 0 = []:=by
 intro h
 have:0<l.length:=List.length_pos_iff.2 h
 unfold firstB
 rw [if_neg (by omega),if_pos (by omega)]
theorem cut_off : ∀(o:Fin 8) (x:Fin 256) (j:Fin 8),o.val<=j.val->0<o.val->Go.bits .and .u8 (x.val:Int) (255*2^(8-o.val)%256)/2^(7-j.val)%2=0:=by decide +kernel
theorem bitN_first_off (l:List Int) (hb:BytesOk l) (n:Nat) (h1:1<=n) (hn:n<=8*l.length) (i:Nat) (hi:n<=i) (hi2:i<8*((n-1)/8+1)):bitN (firstB l (n:Int)) i=0:=by
 have hlen:=firstB_len l n h1 hn
 have h0 : ¬n%8=0:=by omega
 rw [bitN_eq _ i (by rw [hlen];omega)]
 unfold firstB
 rw [if_neg (by omega),if_neg (by omega),Int.toNat_natCast]
 unfold firstBits
 rw [if_neg h0]
 have hm:bitBytes n-1=i/8:=by unfold bitBytes;omega
 have htl:(l.take (bitBytes n)).length=bitBytes n:=by rw [List.length_take];unfold bitBytes;omega
 rw [hm,List.getD_eq_getElem?_getD,List.getElem?_set_self (by rw [htl];unfold bitBytes;omega)]
 simp only [Option.getD_some]
 have hx:0<=(l.take (bitBytes n)).getD (i/8) 0/\(l.take (bitBytes n)).getD (i/8) 0<=255:=BytesOk.get (show BytesOk (l.take (bitBytes n)) from fun x hx=>hb x (List.mem_of_mem_take hx)) _
 have hc:=cut_off ⟨n%8,by omega⟩ ⟨((l.take (bitBytes n)).getD (i/8) 0).toNat,by omega⟩ ⟨i%8,by omega⟩ (by simp only;omega) (by simp only;omega)
 simp only [Int.toNat_of_nonneg hx.1] at hc
 unfold cutByte
 rw [show (8-((n%8:Nat):Int)).toNat=8-n%8 by omega]
 exact hc
theorem firstB_congr {a b:List Int} (ha:BytesOk a) (hb:BytesOk b) (na:a≠[]) (nb:b≠[]) (d:Nat) (h1:d<=8*a.length) (h2:d<=8*b.length) (h : ∀i,i<d->bitN a i=bitN b i):firstB a (d:Int)=firstB b (d:Int):=by
 rcases Nat.eq_zero_or_pos d with rfl|hd
 ·rw [show ((0:Nat):Int)=0 from rfl,firstB_zero a na,firstB_zero b nb]
 ·refine bits_ext (firstB_ok a ha _) (firstB_ok b hb _) (by rw [firstB_len a d hd h1,firstB_len b d hd h2]) (fun i hi=>?_)
  rw [firstB_len a d hd h1] at hi
  rcases Nat.lt_or_ge i d with hlt|hge
  ·rw [bitN_first a ha d hd h1 i hlt,bitN_first b hb d hd h2 i hlt]
   exact h i hlt
  ·rw [bitN_first_off a ha d hd h1 i hge hi,bitN_first_off b hb d hd h2 i hge hi]
structure At (d:Nat) (p:List Int) (b:Int) (k:List Int):Prop where
 lt:d<8*k.length
 pre:firstB k (d:Int)=p
 bit:bitN k d=b
theorem At.common {d:Nat} {p:List Int} {b c:Int} {k m:List Int} (h:At d p b k) (g:At d p c m) (hk:BytesOk k) (hm:BytesOk m) (i:Nat) (hi:i<d):bitN k i=bitN m i:=by
 rw [<-bitN_first k hk d (by omega) (by have:=h.lt;omega) i hi,<-bitN_first m hm d (by omega) (by have:=g.lt;omega) i hi,h.pre,g.pre]
theorem begins_at {d:Nat} {p:List Int} {b:Int} {k row:List Int} (h:At d p b k) (hk:BytesOk k) (hr:BytesOk row):beginsB row p (d:Int)=true↔∀i,i<d->bitN row i=bitN k i:=by
 have hp:BytesOk p:=by rw [<-h.pre];exact firstB_ok k hk _
 unfold beginsB
 rcases Nat.eq_zero_or_pos d with rfl|hd
 ·rw [if_pos (by omega)]
  exact ⟨fun _ i hi=>by omega,fun _=>rfl⟩
 rw [if_neg (by omega)]
 have hpl:p.length=(d-1)/8+1:=by rw [<-h.pre];exact firstB_len k d hd (by have:=h.lt;omega)
 have hpb : ∀i,i<d->bitN p i=bitN k i:=fun i hi=>by rw [<-h.pre];exact bitN_first k hk d hd (by have:=h.lt;omega) i hi
 constructor
 ·intro hh i hi
  split at hh
  ·have:=(common_ge hr hp d).1 (of_decide_eq_true hh) i hi
   rw [this.1,hpb i hi]
  ·cases hh
 ·intro hh
  have hv:d<=8*row.length:=by
   have h1:=hh (d-1) (by omega)
   have h2:=(bitN_valid k (d-1)).2 (by have:=h.lt;omega)
   have h3:=(bitN_valid row (d-1)).1 (by omega)
   omega
  rw [if_pos (by omega)]
  refine decide_eq_true ((common_ge hr hp d).2 (fun i hi=>⟨?_,?_⟩))
  ·rw [hh i hi,hpb i hi]
  ·rw [hh i hi]
   exact (bitN_valid k i).2 (by have:=h.lt;omega)
structure DoS where
 a:Int
 b:Int
 c:Int
 d:Int
 x:List Int
 y:List Int
 r:List Int
end Go.Proofs.YtdeneoknjeegbaaDoor.P
end
section
namespace Go.Proofs.YtdeneoknjeegbaaDoor.P
open Go.RowKit YtdeneoknjeegbaaDoor.Pure
structure Bfs (cs:Cs) (root:Int) (kept todo:List Int):Prop where
 dup:kept.Nodup
 sound : ∀c,c∈kept->Reach cs [root] c
 kids : ∀(c d:Int) (n:Nd),c∈kept->nodeAt cs c=some n->n.f0=false->(d=n.f7\/d=n.f8)->(nodeAt cs d).isSome=true->d∈kept\/d∈todo
 first:(nodeAt cs root).isSome=true->root∈kept\/root∈todo
 todo : ∀t,t∈todo->(nodeAt cs t).isSome=true->Reach cs [root] t
theorem Reach.some {cs:Cs} {roots:List Int} {c:Int} (h:Reach cs roots c):(nodeAt cs c).isSome=true:=by
 cases h with
 | root _ h=>exact h
 | kid _ _ _ _ h=>exact h
theorem Bfs.take {cs:Cs} {root t:Int} {kept rest more:List Int} {n:Nd} (h:Bfs cs root kept (t :: rest)) (hn:nodeAt cs t=some n) (hk:t∉kept) (hm:more=if n.f0 then [] else [n.f7,n.f8]):Bfs cs root (kept++[t]) (rest++more):=by
 have hs:(nodeAt cs t).isSome=true:=by rw [hn];rfl
 have hr:=h.todo t (by simp) hs
 have hx : ∀d,d∈kept\/d∈t :: rest->d∈kept++[t]\/d∈rest++more:=fun d hd=>by
  rcases hd with hd|hd
  ·exact .inl (List.mem_append_left _ hd)
  ·rcases List.mem_cons.1 hd with rfl|hd
   ·exact .inl (List.mem_append_right _ (by simp))
   ·exact .inr (List.mem_append_left _ hd)
 refine ⟨?_,fun c hc=>?_,fun c d m hc hcn hf hd hds=>?_,fun hs=>hx root (h.first hs),fun u hu hus=>?_⟩
 ·rw [List.nodup_append]
  refine ⟨h.dup,by simp,fun a ha b hb=>?_⟩
  obtain rfl:b=t:=by simpa using hb
  rintro rfl
  exact hk ha
 ·rcases List.mem_append.1 hc with hc|hc
  ·exact h.sound c hc
  ·obtain rfl:c=t:=by simpa using hc
   exact hr
 ·rcases List.mem_append.1 hc with hc|hc
  ·exact hx d (h.kids c d m hc hcn hf hd hds)
  ·obtain rfl:c=t:=by simpa using hc
   rw [hn] at hcn
   obtain rfl:=Option.some.inj hcn
   rw [hf] at hm
   right
   rw [hm]
   refine List.mem_append_right _ ?_
   rcases hd with rfl|rfl<;>simp
 ·rcases List.mem_append.1 hu with hu|hu
  ·exact h.todo u (List.mem_cons_of_mem _ hu) hus
  ·cases hf:n.f0 with
   | true=>rw [hm,hf] at hu;simp at hu
   | false=>
     rw [hm,hf] at hu
     exact .kid hr hn hf (by simpa using hu) hus
theorem Bfs.done {cs:Cs} {root:Int} {kept:List Int} (h:Bfs cs root kept []) (c:Int):c∈kept↔Reach cs [root] c:=by
 refine ⟨h.sound c,fun hr=>?_⟩
 induction hr with
 | root h1 h2=>
   rename_i i
   obtain rfl:i=root:=by simpa using h1
   exact (h.first h2).elim id (fun hx=>by cases hx)
 | kid h1 h2 h3 h4 h5 ih=>exact (h.kids _ _ _ ih h2 h3 h4 h5).elim id (fun hx=>by cases hx)
def taken (cs:Cs):List Int:=((List.range cs.length).filter (fun i:Nat=>(nodeAt cs (i:Int)).isSome)).map (fun i:Nat=>(i:Int))
theorem mem_taken (cs:Cs) (c:Int):c∈taken cs↔(nodeAt cs c).isSome=true:=by
 unfold taken
 rw [List.mem_map]
 constructor
 ·rintro ⟨i,hi,rfl⟩
  exact (List.mem_filter.1 hi).2
 ·intro h
  have:=nodeAt_lt h
  refine ⟨c.toNat,List.mem_filter.2 ⟨List.mem_range.2 this.2,?_⟩,by omega⟩
  rw [Int.toNat_of_nonneg this.1]
  exact h
theorem taken_nodup (cs:Cs):(taken cs).Nodup:=by
 unfold taken
 unfold List.Nodup
 rw [List.pairwise_map]
 exact (List.Pairwise.filter _ List.nodup_range).imp (fun hne he=>hne (by omega))
theorem taken_length : ∀(cs:Cs) (j:Nat),j<=cs.length->((List.range j).filter (fun i:Nat=>(nodeAt cs (i:Int)).isSome)).length=usedN (cs.take j)
 | cs,0,_=>by simp [usedN]
 | cs,j+1,h=>by
   have hj:cs[j]? = some cs[j]:=List.getElem?_eq_getElem (by omega)
   rw [List.range_succ,List.filter_append,List.length_append,taken_length cs j (by omega),usedN_take cs j _ hj]
   have hn:=nodeAt_get hj
   congr 1
   rw [List.filter_cons,hn]
   cases cs[j]<;>rfl
theorem usedN_taken (cs:Cs):(taken cs).length=usedN cs:=by
 have:=taken_length cs cs.length (Nat.le_refl _)
 rw [List.take_length] at this
 unfold taken
 rw [List.length_map]
 exact this
theorem used_of {cs:Cs} {l:List Int} (hd:l.Nodup) (hm : ∀c,c∈l↔(nodeAt cs c).isSome=true):l.length=usedN cs:=by
 rw [<-usedN_taken]
 exact ((List.perm_ext_iff_of_nodup hd (taken_nodup cs)).2 (fun c=>(hm c).trans (mem_taken cs c).symm)).length_eq
theorem sweepS_get (marks:List Bool) (cs:Cs) : ∀(j k:Nat),k<j->j<=cs.length->(sweepS marks cs j).1[k]? = if marks.getD k false=true then cs[k]? else some none
 | 0,k,h,_=>absurd h (by omega)
 | j+1,k,h,hj=>by
   have hl:=sweepS_length marks cs j
   simp only [sweepS]
   rcases Nat.lt_or_ge k j with hk|hk
   ·have ih:=sweepS_get marks cs j k hk (by omega)
    split
    ·rw [List.getElem?_set_ne (by omega)]
     exact ih
    ·exact ih
   ·obtain rfl:k=j:=by omega
    have hkk:cs[k]? = some cs[k]:=List.getElem?_eq_getElem (by omega)
    have hn:=nodeAt_get hkk
    split
    ·rename_i hc
     simp only
     rw [List.getElem?_set_self (by omega),if_neg (by rw [hc.2];simp)]
    ·rename_i hc
     rw [sweepS_at marks cs k k (Nat.le_refl _),hkk]
     split
     ·rfl
     ·rename_i hm
      rw [hn] at hc
      cases hcs:cs[k] with
      | none=>rfl
      | some n=>exact absurd ⟨by rw [hcs];rfl,by simpa using hm⟩ hc
theorem sweepS_count (marks:List Bool) (cs:Cs) : ∀j,j<=cs.length->usedN (sweepS marks cs j).1+(sweepS marks cs j).2=usedN cs
 | 0,_=>rfl
 | j+1,h=>by
   have ih:=sweepS_count marks cs j (by omega)
   simp only [sweepS]
   split
   ·rename_i hc
    have hj:cs[j]? = some cs[j]:=List.getElem?_eq_getElem (by omega)
    have hn:=nodeAt_get hj
    rw [hn] at hc
    obtain ⟨n,hnn⟩:=Option.isSome_iff_exists.1 hc.1
    have:=usedN_clear (sweepS marks cs j).1 j n (by rw [sweepS_at marks cs j j (Nat.le_refl _),hj,hnn])
    simp only
    omega
   ·exact ih
theorem mk_getD {ms:List Bool} {k:Nat}:Mk ms (k:Int)↔ms.getD k false=true:=by
 unfold Mk
 rw [Int.toNat_natCast,List.getD_eq_getElem?_getD]
 cases h:ms[k]? with
 | none=>simp
 | some b=>simp
theorem swept_in {cs:Cs} {ms:List Bool} (hl:ms.length=cs.length) {c:Int} (h0:0<=c) (hm:Mk ms c):nodeAt (sweepS ms cs cs.length).1 c=nodeAt cs c:=by
 obtain ⟨k,rfl⟩:=Int.eq_ofNat_of_zero_le h0
 have hk:k<cs.length:=by
  have:=hm
  unfold Mk at this
  have:=(List.getElem?_eq_some_iff.1 this).1
  omega
 have:=sweepS_get ms cs cs.length k hk (Nat.le_refl _)
 rw [if_pos (mk_getD.1 hm)] at this
 unfold nodeAt
 rw [if_pos h0,if_pos h0,Int.toNat_natCast,this]
theorem swept_out {cs:Cs} {ms:List Bool} {c:Int} (h:(nodeAt (sweepS ms cs cs.length).1 c).isSome=true):0<=c/\Mk ms c:=by
 have hlt:=nodeAt_lt h
 rw [sweepS_length] at hlt
 obtain ⟨k,rfl⟩:=Int.eq_ofNat_of_zero_le hlt.1
 rw [Int.toNat_natCast] at hlt
 refine ⟨hlt.1,?_⟩
 have:=sweepS_get ms cs cs.length k hlt.2 (Nat.le_refl _)
 by_cases hm:ms.getD k false=true
 ·exact mk_getD.2 hm
 ·rw [if_neg hm] at this
  unfold nodeAt at h
  rw [if_pos hlt.1,Int.toNat_natCast,this] at h
  cases h
structure Left (cs cs':Cs) (kept:List Int) (gone:Nat):Prop where
 at_ : ∀c,c∈kept->nodeAt cs' c=nodeAt cs c/\(nodeAt cs c).isSome=true
 used:usedN cs'=kept.length
 gone:usedN cs'+gone=usedN cs
theorem Bfs.left {cs:Cs} {root:Int} {kept:List Int} {ms:List Bool} (h:Bfs cs root kept []) (hd:Dfs cs [root] [] ms):Left cs (sweepS ms cs cs.length).1 kept (sweepS ms cs cs.length).2:=by
 have hmk : ∀c,c∈kept->0<=c/\Mk ms c:=fun c hc=>by
  have hr:=h.sound c hc
  have h0:=(nodeAt_lt hr.some).1
  exact ⟨h0,(hd.done c h0).2 hr⟩
 refine ⟨fun c hc=>⟨swept_in hd.len (hmk c hc).1 (hmk c hc).2,(h.sound c hc).some⟩,(used_of h.dup (fun c=>?_)).symm,sweepS_count _ _ _ (Nat.le_refl _)⟩
 constructor
 ·intro hc
  rw [swept_in hd.len (hmk c hc).1 (hmk c hc).2]
  exact (h.sound c hc).some
 ·intro hc
  have hm:=swept_out hc
  exact (h.done c).2 ((hd.done c hm.1).1 hm.2)
end Go.Proofs.YtdeneoknjeegbaaDoor.P
end
section
namespace Go.Proofs.YtdeneoknjeegbaaDoor.P
open Go.RowKit YtdeneoknjeegbaaDoorW.PrintWords YtdeneoknjeegbaaDoorW.PrintLast YtdeneoknjeegbaaDoorW.PrintMore
attribute [local go_sem] max2_int min2_int max_two min_two max_three min_three max_four min_four
def slices_Index_int_int.l0:Nat->List Int->Int->Int->Int->Option (Int)
 | 0,_,_,_,_=>none
 | k+1,x0,x1,x7,x8=>if x8<x7 then (if 0<=x8 then (if x8<(x0.length:Int) then (if x1=(rd x0 x8) then (some x8) else (slices_Index_int_int.l0 k x0 x1 x7 (wrap64 (x8+1)))) else (none)) else (none)) else (some (-1))
def slices_Index_int_int.f (k:Nat) (l0:List Int) (a1:Int):Option (Int):=slices_Index_int_int.l0 k l0 a1 (l0.length:Int) 0
theorem slices_Index_int_int.mono_l : ∀k,(∀y0 y1 y2 y3,LeO (slices_Index_int_int.l0 k y0 y1 y2 y3) (slices_Index_int_int.l0 (k+1) y0 y1 y2 y3))
 | 0=>fun _ _ _ _ r h=>by simp [slices_Index_int_int.l0] at h
 | k+1=>by
   have ih0:=slices_Index_int_int.mono_l k
   ·intro y0 y1 y2 y3
    unfold slices_Index_int_int.l0
    repeat' first
    | (with_reducible exact ih0 _ _ _ _)
    | (with_reducible exact LeO.refl _)
    | (with_reducible exact LeO.none _)
    | (with_reducible refine LeO.ite ?_ ?_)
    | (with_reducible refine LeO.bind ?_ (fun _=>?_))
    | exact ih0 _ _ _ _
    | exact LeO.none _
    | refine LeO.ite ?_ ?_
    | refine LeO.bind ?_ (fun _=>?_)
theorem slices_Index_int_int.mono : ∀a0 a1 k,LeO (slices_Index_int_int.f k a0 a1) (slices_Index_int_int.f (k+1) a0 a1):=by
 intro a0 a1 k
 have ih0:=slices_Index_int_int.mono_l k
 unfold slices_Index_int_int.f
 repeat' first
  | (with_reducible exact ih0 _ _ _ _)
  | (with_reducible exact LeO.refl _)
  | (with_reducible exact LeO.none _)
  | (with_reducible refine LeO.ite ?_ ?_)
  | (with_reducible refine LeO.bind ?_ (fun _=>?_))
  | exact ih0 _ _ _ _
  | exact LeO.none _
  | refine LeO.ite ?_ ?_
  | refine LeO.bind ?_ (fun _=>?_)
def slices_Contains_int_int.f (k:Nat) (l0:List Int) (a1:Int):Option (Bool):=(slices_Index_int_int.f k l0 a1).bind fun t345=>(some (decide (t345>=0)))
theorem slices_Contains_int_int.mono : ∀a0 a1 k,LeO (slices_Contains_int_int.f k a0 a1) (slices_Contains_int_int.f (k+1) a0 a1):=by
 intro a0 a1 k
 unfold slices_Contains_int_int.f
 repeat' first
  | (with_reducible exact slices_Index_int_int.mono _ _ _)
  | (with_reducible exact LeO.refl _)
  | (with_reducible exact LeO.none _)
  | (with_reducible refine LeO.ite ?_ ?_)
  | (with_reducible refine LeO.bind ?_ (fun _=>?_))
  | exact slices_Index_int_int.mono _ _ _
  | exact LeO.none _
  | refine LeO.ite ?_ ?_
  | refine LeO.bind ?_ (fun _=>?_)
end Go.Proofs.YtdeneoknjeegbaaDoor.P
end
section
namespace Go.Proofs.YtdeneoknjeegbaaDoor.P
open Go.RowKit YtdeneoknjeegbaaDoor.Pure YtdeneoknjeegbaaDoorW.PrintWords YtdeneoknjeegbaaDoorW.PrintLast YtdeneoknjeegbaaDoorW.PrintMore
section
variable {P:Program} {ops:Array Oper} {rest:List Oper} {o:Oper} {a:Act} {Q':Exit->Act->World->Prop}
end
end Go.Proofs.YtdeneoknjeegbaaDoor.P
end
section
namespace Go.Proofs.YtdeneoknjeegbaaDoor.P
open Go.RowKit YtdeneoknjeegbaaDoor.Pure YtdeneoknjeegbaaDoorW.PrintWords YtdeneoknjeegbaaDoorW.PrintLast YtdeneoknjeegbaaDoorW.PrintMore

def wayT (row:List Int):Int->PT->List Int×Int
 | i,.leaf n=>([],i)
 | i,.fork n l r=>if beginsB row n.f5 n.f4 then (if bitP row n.f4=1 then (i :: (wayT row n.f8 r).1,(wayT row n.f8 r).2) else (i :: (wayT row n.f7 l).1,(wayT row n.f7 l).2)) else ([],i)
def wayO (row:List Int) (i:Int):Option PT->List Int×Int
 | none=>([],-1)
 | some t=>wayT row i t
theorem IsT.node {cs:Cs} {i:Int} {t:PT} (h:IsT cs i t) : ∃n,nodeAt cs i=some n:=by
 cases t with
 | leaf n=>exact ⟨n,h.1⟩
 | fork n l r=>exact ⟨n,h.1⟩
theorem way_find (cs:Cs) (row id:List Int) : ∀(t:PT) (i:Int),IsT cs i t->
 (findT row id i t).at_=(wayT row i t).2/\(wayT row i t).1.map (nodeAt cs)=(findT row id i t).forks.map some/\nodeAt cs (findT row id i t).at_=some (findT row id i t).node/\
  (findT row id i t).same=((findT row id i t).node.f0&&decide ((findT row id i t).node.f1=id))/\(findT row id i t).forks.length<=t.h
 | .leaf n,i,h=>by
   refine ⟨rfl,rfl,h.1,?_,Nat.le_refl _⟩
   show decide (n.f1=id)=(n.f0&&decide (n.f1=id))
   rw [h.2,Bool.true_and]
 | .fork n l r,i,h=>by
   unfold findT wayT
   by_cases hb:beginsB row n.f5 n.f4=true
   ·rw [if_pos hb,if_pos hb]
    by_cases hbit:bitP row n.f4=1
    ·rw [if_pos hbit,if_pos hbit]
     obtain ⟨h1,h2,h3,h4,h5⟩:=way_find cs row id r n.f8 h.2.2.2
     refine ⟨h1,?_,h3,h4,?_⟩
     ·show nodeAt cs i :: _=some n :: _
      rw [h.1,h2]
     ·show (findT row id n.f8 r).forks.length+1<=max l.h r.h+1
      omega
    ·rw [if_neg hbit,if_neg hbit]
     obtain ⟨h1,h2,h3,h4,h5⟩:=way_find cs row id l n.f7 h.2.2.1
     refine ⟨h1,?_,h3,h4,?_⟩
     ·show nodeAt cs i :: _=some n :: _
      rw [h.1,h2]
     ·show (findT row id n.f7 l).forks.length+1<=max l.h r.h+1
      omega
   ·rw [if_neg hb,if_neg hb]
    refine ⟨rfl,rfl,h.1,?_,Nat.zero_le _⟩
    show false=(n.f0&&decide (n.f1=id))
    rw [h.2.1,Bool.false_and]
end Go.Proofs.YtdeneoknjeegbaaDoor.P
end
