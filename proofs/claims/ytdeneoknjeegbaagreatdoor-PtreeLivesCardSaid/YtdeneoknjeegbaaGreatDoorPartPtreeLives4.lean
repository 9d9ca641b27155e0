/- Lemmas of this claim, part 4. -/
import Derived.Test.YtdeneoknjeegbaaGreatDoorPartPtreeLives2
import Derived.Test.YtdeneoknjeegbaaGreatDoorPartPtreeLives3
import Derived.Outline
import Derived.Laws.CopyOwn
set_option linter.unusedVariables false
set_option linter.unusedSimpArgs false
section
namespace Go.Proofs.YtdeneoknjeegbaaGreatDoor.P
open Go.RowKit YtdeneoknjeegbaaGreatDoorW.PrintWords YtdeneoknjeegbaaGreatDoorW.PrintLast YtdeneoknjeegbaaGreatDoorW.PrintMore
attribute [local go_sem] max2_int min2_int max_two min_two max_three min_three max_four min_four
def texts_Hash.f (k:Nat) (a0:Int) (a1:Int) (l2:List (List Int)):Option (List Int):=(texts_Text.f k a1 l2).bind fun bt135=>(if bt135.2=0 then ((sha_Cut.f a0 bt135.1).bind fun t139=>(some t139)) else (some ([]:List Int)))
set_option maxHeartbeats 8000000 in
set_option maxRecDepth 100000 in
theorem texts_Hash.calls (k:Nat) (a0:Int) (a1:Int) (A2:Option Addr) (c2:Nat) (l2:List (List Int)) (r:List Int) (w:World) (hr2:Kd.C (Kd.slice 5 (Kd.int .u8)) w A2 l2.length l2) (hc2:l2.length<=c2) (hGS:GlobS w) (h:texts_Hash.f k a0 a1 l2=some r):
 Calls Tryz.prog 50 #[.int .i64 a0,.int .i64 a1,.slice A2 l2.length c2] w fun e w'=>∃v0_:Value,e = .returned (v0_)/\Kd.V (Kd.int .u8) 5 w' w.heap.size (fun k_=>(w.heap.size<=k_)) v0_ r/\Below w.heap.size w w':=by
 have HGS:=z_ hGS
 clear hGS
 have HR2:=z_ hr2
 have HC2:=z_ hc2
 clear hr2 hc2
 have HB:=z_ (Below.refl w.heap.size w)
 have H:((texts_Text.f k a1 l2).bind fun bt135=>(if bt135.2=0 then ((sha_Cut.f a0 bt135.1).bind fun t139=>(some t139)) else (some ([]:List Int))))=some r:=h
 clear h
 replace H:=Option.bind_eq_some_iff.mp H
 obtain ⟨⟨t135,t136⟩,A40,H⟩:=H
 replace H:(if t136=0 then ((sha_Cut.f a0 t135).bind fun t139=>(some t139)) else (some ([]:List Int)))=some r:=H
 have A4:=z_ A40
 clear A40
 by_cases c5:t136=0
 ·rw [if_pos c5] at H
  have c5b0:(t136==0)=true:=beq_iff_eq.mpr c5
  have c5b1:(t136 !=0)=false:=bne_eq_false_iff_eq.mpr c5
  clear c5
  replace H:=Option.bind_eq_some_iff.mp H
  obtain ⟨t139,A60,H⟩:=H
  replace H:(some t139)=some r:=H
  have A6:=z_ A60
  clear A60
  obtain rfl:=Option.some.inj H
  go_enter Tryz.func50,Tryz.ntmps50
  go_wp2_with (first|((with_reducible refine gate_callee (f:=72) rfl ?_);refine goesL_ (some 12) rfl rfl Tryz.func72 (by kernel_rfl) rfl #[.int .i64 a1,.slice A2 l2.length c2] rfl (by (try simp only [List.map_toArray,List.map_cons,List.map_nil]);first|done|rfl|(simp only [List.length_drop,List.length_take];rfl)) ?_;(with_reducible refine (texts_Text.calls k a1 _ _ l2 t135 t136 _ ?side1 ?side2 A4.out).mono ?_);(case side1=>repeat (first|exact HR2.out|(with_reducible refine Kd.C_alloc ?_ _)|(with_reducible refine Kd.C_drewN ?_ _)|(with_reducible refine Kd.C_drew ?_)));(case side2=>exact HC2.out);rintro e w7 ⟨v137,rfl,ho0,hb⟩;refine ⟨_,rfl,?_⟩;have n0_:=z_ (Kd.R_lower (Kd.R_newM (M:=fun k_=>(w.heap.size<=k_)) ho0 (below_size (by repeat (first|(with_reducible first|exact HB.out|apply below_alloc|apply pw_below_drewN|apply below_drew1)|exact HB.out))) (fun k_ h_=>h_)) (below_size (by repeat (first|(with_reducible first|exact HB.out|apply below_alloc|apply pw_below_drewN|apply below_drew1)|exact HB.out))));have n1_:=z_ (below_step (by repeat (first|(with_reducible first|exact HB.out|apply below_alloc|apply pw_below_drewN|apply below_drew1)|exact HB.out)) hb);clear HB;have HO138:=n0_;have HB:=n1_;clear n0_ n1_;(try clear hb);(try clear hb2);(try clear hk);(try clear hi);(try clear ho0);obtain ⟨Ao8,co8,eo8⟩:=Kd.R_slice HO138.out;subst eo8)|((with_reducible refine gate_callee (f:=73) rfl ?_);refine goesL_ (some 19) rfl rfl Tryz.func73 (by kernel_rfl) rfl #[.int .i64 a0,.slice Ao8 t135.length co8] rfl (by (try simp only [List.map_toArray,List.map_cons,List.map_nil]);first|done|rfl|(simp only [List.length_drop,List.length_take];rfl)) ?_;(with_reducible refine (sha_Cut.calls a0 _ _ t135 t139 _ ?side1 ?side2 (by first|(with_reducible exact HGS.out)|exact GlobS.of HGS.out (by repeat (first|(with_reducible first|exact HB.out|apply below_alloc|apply pw_below_drewN|apply below_drew1)|exact HB.out))|exact GlobS.of HGS.out (by repeat (first|exact Below.refl _ _|apply below_alloc|apply pw_below_drewN|apply below_drew1))) A6.out).mono ?_);(case side1=>repeat (first|exact (Kd.R_reads' HO138.out).2.2|(with_reducible refine Kd.C_alloc ?_ _)|(with_reducible refine Kd.C_drewN ?_ _)|(with_reducible refine Kd.C_drew ?_)));(case side2=>exact (Kd.R_reads' HO138.out).2.1);rintro e w9 ⟨v140,rfl,ho0,hb⟩;refine ⟨_,rfl,?_⟩;have n0_:=z_ (Kd.R_below (by (with_reducible repeat (first|apply Kd.R_alloc|apply Kd.R_drewN|apply Kd.R_drew));exact HO138.out) hb);have n1_:=z_ (Kd.V_lower (Kd.V_mono (ok':=fun k_=>(w.heap.size<=k_)/\some k_≠(.slice Ao8 t135.length co8:Value).ownBlock) ho0 (fun k_ hk_=>⟨(Nat.le_trans (below_size (by repeat (first|(with_reducible first|exact HB.out|apply below_alloc|apply pw_below_drewN|apply below_drew1)|exact HB.out))) hk_),(Kd.fresh' (Kd.R_lt (by (with_reducible repeat (first|apply Kd.R_alloc|apply Kd.R_drewN|apply Kd.R_drew));exact HO138.out)) k_ hk_)⟩)) (below_size (by repeat (first|(with_reducible first|exact HB.out|apply below_alloc|apply pw_below_drewN|apply below_drew1)|exact HB.out))));have n2_:=z_ (below_step (by repeat (first|(with_reducible first|exact HB.out|apply below_alloc|apply pw_below_drewN|apply below_drew1)|exact HB.out)) hb);clear HO138;clear HB;have HO138:=n0_;have HO141:=n1_;have HB:=n2_;clear n0_ n1_ n2_;(try clear hb);(try clear hb2);(try clear hk);(try clear hi);(try clear ho0)))
  go_ret
  exact ⟨_,by first|rfl|(simp [errW_none,errW_some]<;>rfl)|(simp [*,errW_none,errW_some]<;>rfl),by (with_reducible repeat (first|apply Kd.V_alloc|apply Kd.V_drewN|apply Kd.V_drew));exact Kd.V_mono HO141.out (fun _ hk=>hk.1),by repeat (first|(with_reducible first|exact HB.out|apply below_alloc|apply pw_below_drewN|apply below_drew1)|exact HB.out)⟩
 ·rw [if_neg c5] at H
  have c5b0:(t136==0)=false:=beq_eq_false_iff_ne.mpr c5
  have c5b1:(t136 !=0)=true:=bne_iff_ne.mpr c5
  obtain rfl:=Option.some.inj H
  go_enter Tryz.func50,Tryz.ntmps50
  go_wp2_with (first|((with_reducible refine gate_callee (f:=72) rfl ?_);refine goesL_ (some 12) rfl rfl Tryz.func72 (by kernel_rfl) rfl #[.int .i64 a1,.slice A2 l2.length c2] rfl (by (try simp only [List.map_toArray,List.map_cons,List.map_nil]);first|done|rfl|(simp only [List.length_drop,List.length_take];rfl)) ?_;(with_reducible refine (texts_Text.calls k a1 _ _ l2 t135 t136 _ ?side1 ?side2 A4.out).mono ?_);(case side1=>repeat (first|exact HR2.out|(with_reducible refine Kd.C_alloc ?_ _)|(with_reducible refine Kd.C_drewN ?_ _)|(with_reducible refine Kd.C_drew ?_)));(case side2=>exact HC2.out);rintro e w10 ⟨v137,rfl,ho0,hb⟩;refine ⟨_,rfl,?_⟩;have n0_:=z_ (Kd.R_lower (Kd.R_newM (M:=fun k_=>(w.heap.size<=k_)) ho0 (below_size (by repeat (first|(with_reducible first|exact HB.out|apply below_alloc|apply pw_below_drewN|apply below_drew1)|exact HB.out))) (fun k_ h_=>h_)) (below_size (by repeat (first|(with_reducible first|exact HB.out|apply below_alloc|apply pw_below_drewN|apply below_drew1)|exact HB.out))));have n1_:=z_ (below_step (by repeat (first|(with_reducible first|exact HB.out|apply below_alloc|apply pw_below_drewN|apply below_drew1)|exact HB.out)) hb);clear HB;have HO138:=n0_;have HB:=n1_;clear n0_ n1_;(try clear hb);(try clear hb2);(try clear hk);(try clear hi);(try clear ho0)))
  go_ret
  exact ⟨_,by first|rfl|(simp [errW_none,errW_some]<;>rfl)|(simp [*,errW_none,errW_some]<;>rfl),(by first|exact Kd.V_nil _ _ _ _ _|exact Kd.R_V (by first|exact Kd.R_nil _ _ _ _ _|exact Kd.N_nil _ _ _ _ _|exact Kd.Q_nil _ _ _ _ _|exact Kd.S_nil _ _ _ _ _)),by repeat (first|(with_reducible first|exact HB.out|apply below_alloc|apply pw_below_drewN|apply below_drew1)|exact HB.out)⟩
end Go.Proofs.YtdeneoknjeegbaaGreatDoor.P
end
section
namespace Go.Proofs.YtdeneoknjeegbaaGreatDoor.P
open Go.RowKit YtdeneoknjeegbaaGreatDoorW.PrintWords YtdeneoknjeegbaaGreatDoorW.PrintLast YtdeneoknjeegbaaGreatDoorW.PrintMore
theorem IsBytes.V {w:World} {g t e n base:Nat} {xs:List Int} (h:IsBytes w g t xs) (hb:base<=g) (hn:xs.length=n) (hm:n<=9223372036854775807):Kd.V (Kd.int .u8) e w base (fun k_=>base<=k_) (.slice (some ⟨g,0,none⟩) n n) xs:=by
 subst hn
 refine Kd.V_mk (Nat.le_refl _) ?_
 intro W' hW
 have h2:IsBytes W' g t xs:=(hW g hb h.lt).trans h
 have:=h2.C (o:=0) (n:=xs.length) (by omega) hm
 simpa using this
def numRun:Nat->Int->List Int->List Int
 | 0,_,ys=>ys
 | i+1,x,ys=>numRun i (x/256) (ys.set i (x%256))
def numBytes (n:Int):List Int:=numRun 8 n (List.replicate 8 0)
def texts_Number.f (a0:Int):Option (List Int):=some (numBytes a0)
set_option maxHeartbeats 1000000 in
set_option maxRecDepth 100000 in
theorem texts_Number.calls (a0:Int) (r:List Int) (w:World) (h:texts_Number.f a0=some r):
 Calls Tryz.prog 75 #[.int .i64 a0] w fun e w'=>∃v0_:Value,e = .returned (v0_)/\Kd.V (Kd.int .u8) 5 w' w.heap.size (fun k_=>w.heap.size<=k_) v0_ r/\Below w.heap.size w w':=by
 obtain rfl:=Option.some.inj h
 clear h
 go_enter Tryz.func75,Tryz.ntmps75
 go_wp2_with fail
 obtain ⟨g,hg⟩ : ∃g,g=w.heap.size:=⟨_,rfl⟩
 rw [<-hg]
 have HG:=z_ hg
 have hge:w.heap.size<=g:=by omega
 clear hg
 go_loopw [0,4] (fun v0 v4 wr=>∃(i:Nat) (x:Int) (ys:List Int),i<=8/\v0 = .int .i64 x/\v4 = .int .i64 (i:Int)/\Aside0 (ys.length=8)/\Aside0 (numRun i x ys=numBytes a0)/\Aside0 (IsBytes wr g 115 ys)/\Aside0 (Below w.heap.size w wr)) (fun _ v4 _=>(intOf v4).toNat)
 case atStart=>exact ⟨8,a0,List.replicate 8 0,by omega,rfl,rfl,⟨by rfl⟩,⟨rfl⟩,⟨by rw [HG.out];exact heap_alloc_new w _⟩,⟨below_alloc (Below.refl _ _) _⟩⟩
 case round=>
  obtain ⟨i,x,ys,hi,rfl,rfl,HL,HT,HI,HB⟩:=hrel
  by_cases hi0:0<i
  ·have hd:decide ((0:Int)<(i:Int))=true:=by simp;omega
   obtain ⟨i,rfl⟩ : ∃j,i=j+1:=⟨i-1,by omega⟩
   have e1:((i+1:Nat):Int)-1=(i:Int):=by omega
   have e2:IntKind.i64.wrap (i:Int)=(i:Int):=by rw [IntKind.wrap_i64];omega
   have hi8:(i:Int)<8:=by omega
   have hc:=HI.out.cell i (by have:=HL.out;omega)
   have hf:=HI.out.frozen i
   go_wp2_with fail
   refine ⟨⟨i,x/256,ys.set i (x%256),by omega,rfl,rfl,⟨by rw [List.length_set];exact HL.out⟩,⟨HT.out⟩,⟨HI.out.set i _⟩,⟨HB.out.setCell (by show w.heap.size<=g;exact hge) _⟩⟩,by simp only [intOf];omega⟩
  ·obtain rfl:i=0:=by omega
   have hd:decide ((0:Int)<((0:Nat):Int))=false:=by decide
   go_wp2_with fail
   go_ret
   exact ⟨_,rfl,by rw [<-HT.out];exact HI.out.V hge HL.out (by decide),HB.out⟩
end Go.Proofs.YtdeneoknjeegbaaGreatDoor.P
end
section
namespace Go.Proofs.YtdeneoknjeegbaaGreatDoor.P
open Go.RowKit YtdeneoknjeegbaaGreatDoorW.PrintWords YtdeneoknjeegbaaGreatDoorW.PrintLast YtdeneoknjeegbaaGreatDoorW.PrintMore
attribute [local go_sem] max2_int min2_int max_two min_two max_three min_three max_four min_four
def arena_LeafHash.f (k:Nat) (a0:Int) (l1:List Int) (l2:List Int) (a3:Int):Option (List Int):=(texts_Number.f a3).bind fun t215=>((texts_Hash.f k a0 1 (([l1,l2,t215]:List (List Int)))).bind fun t221=>(some t221))
set_option maxHeartbeats 8000000 in
set_option maxRecDepth 100000 in
theorem arena_LeafHash.calls (k:Nat) (a0:Int) (P1_:Nat->Prop) (A1:Option Addr) (c1:Nat) (l1:List Int) (P2_:Nat->Prop) (A2:Option Addr) (c2:Nat) (l2:List Int) (a3:Int) (r:List Int) (w:World) (hs1:Kd.V (Kd.int .u8) 5 w w.heap.size (fun k_=>P1_ k_) (.slice A1 l1.length c1) l1) (hs2:Kd.V (Kd.int .u8) 5 w w.heap.size (fun k_=>P2_ k_) (.slice A2 l2.length c2) l2) (hGS:GlobS w) (h:arena_LeafHash.f k a0 l1 l2 a3=some r):
 Calls Tryz.prog 57 #[.int .i64 a0,.slice A1 l1.length c1,.slice A2 l2.length c2,.int .i64 a3] w fun e w'=>∃v0_:Value,e = .returned (v0_)/\Kd.V (Kd.int .u8) 5 w' w.heap.size (fun k_=>((P1_ k_\/P2_ k_)\/w.heap.size<=k_)) v0_ r/\Below w.heap.size w w':=by
 have HGS:=z_ hGS
 clear hGS
 have HO1:=z_ (show Kd.V (Kd.int .u8) 5 w w.heap.size (fun k_=>((P1_ k_\/P2_ k_)\/w.heap.size<=k_)) (.slice A1 l1.length c1) l1 from Kd.V_mono hs1 (fun k_ hk=>.inl (.inl hk)))
 have HO2:=z_ (show Kd.V (Kd.int .u8) 5 w w.heap.size (fun k_=>((P1_ k_\/P2_ k_)\/w.heap.size<=k_)) (.slice A2 l2.length c2) l2 from Kd.V_mono hs2 (fun k_ hk=>.inl (.inr hk)))
 have HB:=z_ (Below.refl w.heap.size w)
 have H:((texts_Number.f a3).bind fun t215=>((texts_Hash.f k a0 1 (([l1,l2,t215]:List (List Int)))).bind fun t221=>(some t221)))=some r:=h
 clear h
 replace H:=Option.bind_eq_some_iff.mp H
 obtain ⟨t215,A50,H⟩:=H
 replace H:((texts_Hash.f k a0 1 (([l1,l2,t215]:List (List Int)))).bind fun t221=>(some t221))=some r:=H
 have A5:=z_ A50
 clear A50
 obtain ⟨y218,hy218⟩ : ∃y_:List (List Int),y_=(([l1,l2,t215]:List (List Int))):=⟨_,rfl⟩
 replace H:((texts_Hash.f k a0 1 y218).bind fun t221=>(some t221))=some r:=by first|(rw [hy218];with_reducible exact H)|(have H2_:=(Option.bind_some _ _).symm.trans H;rw [hy218];with_reducible exact H2_)|(have H2_:=(Option.bind_some _ _).symm.trans H;with_reducible exact H2_)|with_reducible exact H|(rw [hy218];exact H)|exact H
 have Ny218:=z_ hy218
 clear hy218
 replace H:=Option.bind_eq_some_iff.mp H
 obtain ⟨t221,A60,H⟩:=H
 replace H:(some t221)=some r:=H
 have A6:=z_ A60
 clear A60
 obtain rfl:=Option.some.inj H
 go_enter Tryz.func57,Tryz.ntmps57
 go_wp2_with (first|((with_reducible refine gate_callee (f:=75) rfl ?_);refine goesL_ (some 13) rfl rfl Tryz.func75 (by kernel_rfl) rfl #[.int .i64 a3] rfl (by (try simp only [List.map_toArray,List.map_cons,List.map_nil]);first|done|rfl|(simp only [List.length_drop,List.length_take];rfl)) ?_;(with_reducible refine (texts_Number.calls a3 t215 _ A5.out).mono ?_);rintro e w7 ⟨v216,rfl,ho0,hb⟩;refine ⟨_,rfl,?_⟩;have n0_:=z_ (Kd.V_below (by (with_reducible repeat (first|apply Kd.V_alloc|apply Kd.V_drewN|apply Kd.V_drew));exact HO1.out) hb);have n1_:=z_ (Kd.V_below (by (with_reducible repeat (first|apply Kd.V_alloc|apply Kd.V_drewN|apply Kd.V_drew));exact HO2.out) hb);have n2_:=z_ (Kd.V_lower (Kd.V_mono (ok':=fun k_=>((P1_ k_\/P2_ k_)\/w.heap.size<=k_)) ho0 (fun k_ hk_=>(.inr (Nat.le_trans (below_size (by repeat (first|(with_reducible first|exact HB.out|apply below_alloc|apply pw_below_drewN|apply below_drew1)|exact HB.out))) hk_)))) (below_size (by repeat (first|(with_reducible first|exact HB.out|apply below_alloc|apply pw_below_drewN|apply below_drew1)|exact HB.out))));have n3_:=z_ (below_step (by repeat (first|(with_reducible first|exact HB.out|apply below_alloc|apply pw_below_drewN|apply below_drew1)|exact HB.out)) hb);clear HO1;clear HO2;clear HB;have HO1:=n0_;have HO2:=n1_;have HO217:=n2_;have HB:=n3_;clear n0_ n1_ n2_ n3_;(try clear hb);(try clear hb2);(try clear hk);(try clear hi);(try clear ho0);obtain ⟨Ao8,co8,eo8⟩:=Kd.V_slice HO217.out;subst eo8)|((with_reducible refine gate_dst (N:=14) rfl ?_);refine Kd.N_lit (Kd.slice 5 (Kd.int .u8)) _ 23 ?hg (N':=14) ?hd (xs:=([l1,l2,t215]:List (List Int))) (inner:=[.slice A1 l1.length c1,.slice A2 l2.length c2,.slice Ao8 t215.length co8]) (ok:=(fun k_=>((P1_ k_\/P2_ k_)\/w.heap.size<=k_))) (okp:=(fun k_=>((P1_ k_\/P2_ k_)\/w.heap.size<=k_))) ?hr ?hp (fun _ hk=>hk) ((show ∀k_,w7.heap.size<=k_->(fun k_=>((P1_ k_\/P2_ k_)\/w.heap.size<=k_)) k_ from fun k_ hk=>(.inr (Nat.le_trans (below_size (by repeat (first|(with_reducible first|exact HB.out|apply below_alloc|apply pw_below_drewN|apply below_drew1)|exact HB.out))) hk))) _ (Nat.le_refl _)) (Below.refl _ _) (Nat.le_refl _) (by simp) ?_;(case hd=>rfl);(case hg=>rfl);(case hr=>first|(go_simp;done)|(go_simp;rfl));(case hp=>exact (Reps.one (show Kd.FK (Kd.slice 5 (Kd.int .u8)) _ _ l1 [.slice A1 l1.length c1] from (Kd.FK_slice_mk (Kd.V_reads' (Kd.V_mono (ok':=(fun k_=>((P1_ k_\/P2_ k_)\/w.heap.size<=k_))) (HO1.out) (fun k_ hk=>hk))).2.1 (Kd.V_F (Kd.V_mono (ok':=(fun k_=>((P1_ k_\/P2_ k_)\/w.heap.size<=k_))) (HO1.out) (fun k_ hk=>hk))))) (Reps.one (show Kd.FK (Kd.slice 5 (Kd.int .u8)) _ _ l2 [.slice A2 l2.length c2] from (Kd.FK_slice_mk (Kd.V_reads' (Kd.V_mono (ok':=(fun k_=>((P1_ k_\/P2_ k_)\/w.heap.size<=k_))) (HO2.out) (fun k_ hk=>hk))).2.1 (Kd.V_F (Kd.V_mono (ok':=(fun k_=>((P1_ k_\/P2_ k_)\/w.heap.size<=k_))) (HO2.out) (fun k_ hk=>hk))))) (Reps.one (show Kd.FK (Kd.slice 5 (Kd.int .u8)) _ _ t215 [.slice Ao8 t215.length co8] from (Kd.FK_slice_mk (Kd.V_reads' (Kd.V_mono (ok':=(fun k_=>((P1_ k_\/P2_ k_)\/w.heap.size<=k_))) (HO217.out) (fun k_ hk=>hk))).2.1 (Kd.V_F (Kd.V_mono (ok':=(fun k_=>((P1_ k_\/P2_ k_)\/w.heap.size<=k_))) (HO217.out) (fun k_ hk=>hk))))) (Reps.none _ _)))));intro v219 w9 ho10 hb hg_ hnew_;clear hg_ hnew_;(first|rw [<-Ny218.out] at ho10|(simp only [Int.reduceToNat] at ho10;rw [<-Ny218.out] at ho10));have n0_:=z_ (Kd.V_elder' (by (with_reducible repeat (first|apply Kd.V_alloc|apply Kd.V_drewN|apply Kd.V_drew));exact HO1.out) (Kd.N_base ho10) hb);have n1_:=z_ (Kd.V_elder' (by (with_reducible repeat (first|apply Kd.V_alloc|apply Kd.V_drewN|apply Kd.V_drew));exact HO2.out) (Kd.N_base ho10) hb);have n2_:=z_ (Kd.V_elder' (by (with_reducible repeat (first|apply Kd.V_alloc|apply Kd.V_drewN|apply Kd.V_drew));exact HO217.out) (Kd.N_base ho10) hb);have n3_:=z_ (Kd.N_lower ho10 (below_size (by repeat (first|(with_reducible first|exact HB.out|apply below_alloc|apply pw_below_drewN|apply below_drew1)|exact HB.out))));have n4_:=z_ (below_step (by repeat (first|(with_reducible first|exact HB.out|apply below_alloc|apply pw_below_drewN|apply below_drew1)|exact HB.out)) hb);clear HO1;clear HO2;clear HO217;clear HB;have HO1:=n0_;have HO2:=n1_;have HO217:=n2_;have HO220:=n3_;have HB:=n4_;clear n0_ n1_ n2_ n3_ n4_;clear hb ho10;obtain ⟨Ao11,co11,eo11⟩:=Kd.N_slice HO220.out;subst eo11)|((with_reducible refine gate_callee (f:=50) rfl ?_);refine goesL_ (some 15) rfl rfl Tryz.func50 (by kernel_rfl) rfl #[.int .i64 a0,.int .i64 1,.slice Ao11 y218.length co11] rfl (by (try simp only [List.map_toArray,List.map_cons,List.map_nil]);first|done|rfl|(simp only [List.length_drop,List.length_take];rfl)) ?_;(with_reducible refine (texts_Hash.calls k a0 1 _ _ y218 t221 _ ?side1 ?side2 (by first|(with_reducible exact HGS.out)|exact GlobS.of HGS.out (by repeat (first|(with_reducible first|exact HB.out|apply below_alloc|apply pw_below_drewN|apply below_drew1)|exact HB.out))|exact GlobS.of HGS.out (by repeat (first|exact Below.refl _ _|apply below_alloc|apply pw_below_drewN|apply below_drew1))) A6.out).mono ?_);(case side1=>repeat (first|exact (Kd.N_reads' HO220.out).2.2|(with_reducible refine Kd.C_alloc ?_ _)|(with_reducible refine Kd.C_drewN ?_ _)|(with_reducible refine Kd.C_drew ?_)));(case side2=>exact (Kd.N_reads' HO220.out).2.1);rintro e w12 ⟨v222,rfl,ho0,hb⟩;refine ⟨_,rfl,?_⟩;have n0_:=z_ (Kd.V_below (by (with_reducible repeat (first|apply Kd.V_alloc|apply Kd.V_drewN|apply Kd.V_drew));exact HO1.out) hb);have n1_:=z_ (Kd.V_below (by (with_reducible repeat (first|apply Kd.V_alloc|apply Kd.V_drewN|apply Kd.V_drew));exact HO2.out) hb);have n2_:=z_ (Kd.V_below (by (with_reducible repeat (first|apply Kd.V_alloc|apply Kd.V_drewN|apply Kd.V_drew));exact HO217.out) hb);have n3_:=z_ (Kd.N_below (by (with_reducible repeat (first|apply Kd.N_alloc|apply Kd.N_drewN|apply Kd.N_drew));exact HO220.out) hb);have n4_:=z_ (Kd.V_lower (Kd.V_mono (ok':=fun k_=>((P1_ k_\/P2_ k_)\/w.heap.size<=k_)/\some k_≠(.slice Ao11 y218.length co11:Value).ownBlock) ho0 (fun k_ hk_=>⟨(.inr (Nat.le_trans (below_size (by repeat (first|(with_reducible first|exact HB.out|apply below_alloc|apply pw_below_drewN|apply below_drew1)|exact HB.out))) hk_)),(Kd.fresh' (Kd.N_lt (by (with_reducible repeat (first|apply Kd.N_alloc|apply Kd.N_drewN|apply Kd.N_drew));exact HO220.out)) k_ hk_)⟩)) (below_size (by repeat (first|(with_reducible first|exact HB.out|apply below_alloc|apply pw_below_drewN|apply below_drew1)|exact HB.out))));have n5_:=z_ (below_step (by repeat (first|(with_reducible first|exact HB.out|apply below_alloc|apply pw_below_drewN|apply below_drew1)|exact HB.out)) hb);clear HO1;clear HO2;clear HO217;clear HO220;clear HB;have HO1:=n0_;have HO2:=n1_;have HO217:=n2_;have HO220:=n3_;have HO223:=n4_;have HB:=n5_;clear n0_ n1_ n2_ n3_ n4_ n5_;(try clear hb);(try clear hb2);(try clear hk);(try clear hi);(try clear ho0)))
 go_ret
 exact ⟨_,by first|rfl|(simp [errW_none,errW_some]<;>rfl)|(simp [*,errW_none,errW_some]<;>rfl),by (with_reducible repeat (first|apply Kd.V_alloc|apply Kd.V_drewN|apply Kd.V_drew));exact Kd.V_mono HO223.out (fun _ hk=>hk.1),by repeat (first|(with_reducible first|exact HB.out|apply below_alloc|apply pw_below_drewN|apply below_drew1)|exact HB.out)⟩
end Go.Proofs.YtdeneoknjeegbaaGreatDoor.P
end
section
namespace Go.Proofs.YtdeneoknjeegbaaGreatDoor.P
open Go.RowKit YtdeneoknjeegbaaGreatDoorW.PrintWords YtdeneoknjeegbaaGreatDoorW.PrintLast YtdeneoknjeegbaaGreatDoorW.PrintMore
abbrev BytesV (w:World) (ok:Nat->Prop) (v:Value) (l:List Int):Prop:=Kd.V (Kd.int .u8) 5 w w.heap.size ok v l
attribute [local go_sem] max2_int min2_int max_two min_two
end Go.Proofs.YtdeneoknjeegbaaGreatDoor.P
end
section
namespace Go.Proofs.YtdeneoknjeegbaaGreatDoor.P
open Go.RowKit YtdeneoknjeegbaaGreatDoorW.PrintWords YtdeneoknjeegbaaGreatDoorW.PrintLast YtdeneoknjeegbaaGreatDoorW.PrintMore
attribute [local go_sem] max2_int min2_int max_two min_two max_three min_three max_four min_four
def annalsref01_right.f (a0:Int) (a1:Int):Option (Int):=if 0<=a1 then (if 0<=(wrap64 (32-a1)) then (some (Go.bits .or .u32 (shr .u32 a0 a1) (shl .u32 a0 (wrap64 (32-a1))))) else (none)) else (none)
set_option maxHeartbeats 8000000 in
set_option maxRecDepth 100000 in
theorem annalsref01_right.calls (a0:Int) (a1:Int) (r:Int) (w:World) (h:annalsref01_right.f a0 a1=some r):
 Calls Tryz.prog 93 #[.int .u32 a0,.int .i64 a1] w fun e w'=>e = .returned (.int .u32 r)/\Drawn0 w w':=by
 have H:(if 0<=a1 then (if 0<=(wrap64 (32-a1)) then (some (Go.bits .or .u32 (shr .u32 a0 a1) (shl .u32 a0 (wrap64 (32-a1))))) else (none)) else (none))=some r:=h
 clear h
 by_cases c3:0<=a1
 ·rw [if_pos c3] at H
  have c3b0:=eq_true c3
  have c3b1:decide (0<=a1)=true:=decide_eq_true c3
  clear c3
  obtain ⟨ji4,hji4⟩ : ∃j_:Int,(shr .u32 a0 a1)=j_:=⟨_,rfl⟩
  replace H:(if 0<=(wrap64 (32-a1)) then (some (Go.bits .or .u32 (ji4) (shl .u32 a0 (wrap64 (32-a1))))) else (none))=some r:=by first|(rw [hji4] at H;exact H)|(simp only [hji4] at H ⊢;exact H)
  have hji4_:(a0/2^min a1.toNat 32)=ji4:=hji4
  have hji4z:a1<=32->(a0/2^a1.toNat)=ji4:=shr_small hji4
  obtain ⟨ji5,hji5⟩ : ∃j_:Int,(wrap64 (32-a1))=j_:=⟨_,rfl⟩
  replace H:(if 0<=(ji5) then (some (Go.bits .or .u32 (ji4) (shl .u32 a0 (ji5)))) else (none))=some r:=by first|(rw [hji5] at H;exact H)|(simp only [hji5] at H ⊢;exact H)
  have hji5w:(IntKind.i64.wrap (32-a1))=ji5:=(i64_w _).trans hji5
  by_cases c6:0<=(ji5)
  ·rw [if_pos c6] at H
   have c6b0:=eq_true c6
   have c6b1:decide (0<=(ji5))=true:=decide_eq_true c6
   clear c6
   obtain ⟨ji7,hji7⟩ : ∃j_:Int,(shl .u32 a0 (ji5))=j_:=⟨_,rfl⟩
   replace H:(some (Go.bits .or .u32 (ji4) (ji7)))=some r:=by first|(rw [hji7] at H;exact H)|(simp only [hji7] at H ⊢;exact H)
   have hji7_:(IntKind.u32.wrap (a0*2^min (ji5).toNat 32))=ji7:=hji7
   have hji7z:(ji5)<=32->(IntKind.u32.wrap (a0*2^(ji5).toNat))=ji7:=shl_small hji7
   obtain rfl:=Option.some.inj H
   go_enter Tryz.func93,Tryz.ntmps93
   go_wp2
   repeat (go_quiet (fail);try go_wp2)
   go_ret
   exact ⟨by first|rfl|(simp;done)|(simp only [<-hji4,<-hji5,<-hji7]<;>(first|rfl|simp))|(simp [*];done),by repeat (first|exact Drawn0.refl _|apply Drawn0.step)⟩
  ·rw [if_neg c6] at H
   exact absurd H (by simp)
 ·rw [if_neg c3] at H
  exact absurd H (by simp)
end Go.Proofs.YtdeneoknjeegbaaGreatDoor.P
end
section
namespace Go.Proofs.YtdeneoknjeegbaaGreatDoor.P
open Go.RowKit YtdeneoknjeegbaaGreatDoorW.PrintWords YtdeneoknjeegbaaGreatDoorW.PrintLast YtdeneoknjeegbaaGreatDoorW.PrintMore
theorem right_some (x n:Int) (h0:0<=n) (h1:n<=32):annalsref01_right.f x n=some ((annalsref01_right.f x n).getD 0):=by
 unfold annalsref01_right.f
 rw [if_pos h0,if_pos (by unfold wrap64;omega)]
 rfl
def Sums.agg (s:Sums):Value:=.agg #[.int .u32 s.a,.int .u32 s.b,.int .u32 s.c,.int .u32 s.d,.int .u32 s.e,.int .u32 s.f,.int .u32 s.g,.int .u32 s.h]
def Sums.rround (s:Sums) (add:Int):Sums:=
 let s0:=Go.bits .xor .u32 (Go.bits .xor .u32 ((annalsref01_right.f s.a 2).getD 0) ((annalsref01_right.f s.a 13).getD 0)) ((annalsref01_right.f s.a 22).getD 0)
 let s1:=Go.bits .xor .u32 (Go.bits .xor .u32 ((annalsref01_right.f s.e 6).getD 0) ((annalsref01_right.f s.e 11).getD 0)) ((annalsref01_right.f s.e 25).getD 0)
 let choice:=Go.bits .xor .u32 (Go.bits .and .u32 s.e s.f) (Go.bits .and .u32 (Go.bits .xor .u32 IntKind.u32.max s.e) s.g)
 let most:=Go.bits .xor .u32 (Go.bits .xor .u32 (Go.bits .and .u32 s.a s.b) (Go.bits .and .u32 s.a s.c)) (Go.bits .and .u32 s.b s.c)
 ⟨(s.h+s1+choice+add+s0+most)%4294967296,s.a,s.b,s.c,(s.d+(s.h+s1+choice+add))%4294967296,s.e,s.f,s.g⟩
set_option maxRecDepth 100000 in
theorem results_round (W:World) (g:Nat) (v:Sums) (h:IsWords W g 124 v.list) (tm:Array Value) (h4:tm[4]?.getD undef = .pointer (some ⟨g,0,none⟩)):(results Tryz.f94 tm).run Tryz.prog W = .ok v.agg W:=by
 obtain ⟨c0,c1,c2,c3,c4,c5,c6,c7⟩:=IsSums.cells h
 simp [results,Tryz.results94,go_sem,h4,c0,c1,c2,c3,c4,c5,c6,c7,Sums.agg]
set_option maxHeartbeats 4000000 in
set_option maxRecDepth 100000 in
theorem round_calls (s:Sums) (add:Int) (w:World):
 Calls Tryz.prog 94 #[s.agg,.int .u32 add] w fun e w'=>e = .returned (s.rround add).agg/\Below w.heap.size w w':=by
 obtain ⟨y1,h1⟩ : ∃y,annalsref01_right.f s.a 2=some y:=⟨_,right_some _ _ (by omega) (by omega)⟩
 obtain ⟨y2,h2⟩ : ∃y,annalsref01_right.f s.a 13=some y:=⟨_,right_some _ _ (by omega) (by omega)⟩
 obtain ⟨y3,h3⟩ : ∃y,annalsref01_right.f s.a 22=some y:=⟨_,right_some _ _ (by omega) (by omega)⟩
 obtain ⟨y4,h4⟩ : ∃y,annalsref01_right.f s.e 6=some y:=⟨_,right_some _ _ (by omega) (by omega)⟩
 obtain ⟨y5,h5⟩ : ∃y,annalsref01_right.f s.e 11=some y:=⟨_,right_some _ _ (by omega) (by omega)⟩
 obtain ⟨y6,h6⟩ : ∃y,annalsref01_right.f s.e 25=some y:=⟨_,right_some _ _ (by omega) (by omega)⟩
 have G1:=z_ h1
 have G2:=z_ h2
 have G3:=z_ h3
 have G4:=z_ h4
 have G5:=z_ h5
 have G6:=z_ h6
 clear h1 h2 h3 h4 h5 h6
 unfold Sums.agg
 go_enter Tryz.func94,Tryz.ntmps94
 go_wp2_with fail
 obtain ⟨W1,hW1⟩ : ∃W1,W1=(w.alloc (Obj.cells (#[.int .u32 s.a,.int .u32 s.b,.int .u32 s.c,.int .u32 s.d,.int .u32 s.e,.int .u32 s.f,.int .u32 s.g,.int .u32 s.h]) 124 (0,0))).alloc (Obj.cells (#[.int .u32 0,.int .u32 0,.int .u32 0,.int .u32 0,.int .u32 0,.int .u32 0,.int .u32 0,.int .u32 0]) 124 (0,0)):=⟨_,rfl⟩
 have hz:(w.alloc (Obj.cells (#[.int .u32 s.a,.int .u32 s.b,.int .u32 s.c,.int .u32 s.d,.int .u32 s.e,.int .u32 s.f,.int .u32 s.g,.int .u32 s.h]) 124 (0,0))).heap.size=w.heap.size+1:=by simp
 have hI:IsWords W1 w.heap.size 124 s.list:=by
  rw [hW1]
  exact (below_alloc (Below.refl _ _) _).block _ (by rw [hz];omega) |>.trans (heap_alloc_new w _)
 have hJ:IsWords W1 (w.heap.size+1) 124 [0,0,0,0,0,0,0,0]:=by
  rw [hW1,<-hz]
  exact heap_alloc_new _ _
 have hB:Below w.heap.size w W1:=by
  rw [hW1]
  exact (below_alloc (Below.refl _ _) _).trans ((below_alloc (Below.refl _ _) _).mono (by rw [hz];omega))
 rw [<-hW1]
 obtain ⟨g,hg⟩ : ∃g,g=w.heap.size:=⟨_,rfl⟩
 rw [<-hg] at hI hJ
 rw [<-hg]
 have HJ:=z_ hJ
 have HB:=z_ hB
 have HG:=z_ hg
 obtain ⟨c0,c1,c2,c3,c4,c5,c6,c7⟩:=IsSums.cells hI
 obtain ⟨d0,d1,d2,d3,d4,d5,d6,d7⟩:=IsSums.cells (s:=⟨0,0,0,0,0,0,0,0⟩) hJ
 have f0:=hJ.frozen 0
 have f1:=hJ.frozen 1
 have f2:=hJ.frozen 2
 have f3:=hJ.frozen 3
 have f4:=hJ.frozen 4
 have f5:=hJ.frozen 5
 have f6:=hJ.frozen 6
 have f7:=hJ.frozen 7
 clear hI hJ hB hg hz hW1
 go_quiet ((go_at_call 93;(first|with_reducible exact quiet_drawn0 (annalsref01_right.calls s.a 2 y1 _ G1.out)|with_reducible exact quiet_drawn2 (annalsref01_right.calls s.a 2 y1 _ G1.out)|with_reducible exact quiet_drawn (annalsref01_right.calls s.a 2 y1 _ G1.out)|with_reducible exact quiet_drawn0 (annalsref01_right.calls s.a 13 y2 _ G2.out)|with_reducible exact quiet_drawn2 (annalsref01_right.calls s.a 13 y2 _ G2.out)|with_reducible exact quiet_drawn (annalsref01_right.calls s.a 13 y2 _ G2.out)|with_reducible exact quiet_drawn0 (annalsref01_right.calls s.a 22 y3 _ G3.out)|with_reducible exact quiet_drawn2 (annalsref01_right.calls s.a 22 y3 _ G3.out)|with_reducible exact quiet_drawn (annalsref01_right.calls s.a 22 y3 _ G3.out))))
 go_wp2_with fail
 go_quiet ((go_at_call 93;(first|with_reducible exact quiet_drawn0 (annalsref01_right.calls s.e 6 y4 _ G4.out)|with_reducible exact quiet_drawn2 (annalsref01_right.calls s.e 6 y4 _ G4.out)|with_reducible exact quiet_drawn (annalsref01_right.calls s.e 6 y4 _ G4.out)|with_reducible exact quiet_drawn0 (annalsref01_right.calls s.e 11 y5 _ G5.out)|with_reducible exact quiet_drawn2 (annalsref01_right.calls s.e 11 y5 _ G5.out)|with_reducible exact quiet_drawn (annalsref01_right.calls s.e 11 y5 _ G5.out)|with_reducible exact quiet_drawn0 (annalsref01_right.calls s.e 25 y6 _ G6.out)|with_reducible exact quiet_drawn2 (annalsref01_right.calls s.e 25 y6 _ G6.out)|with_reducible exact quiet_drawn (annalsref01_right.calls s.e 25 y6 _ G6.out))))
 go_wp2_with fail
 have hR:s.rround add=⟨(s.h+Go.bits .xor .u32 (Go.bits .xor .u32 y4 y5) y6+Go.bits .xor .u32 (Go.bits .and .u32 s.e s.f) (Go.bits .and .u32 (Go.bits .xor .u32 IntKind.u32.max s.e) s.g)+add+Go.bits .xor .u32 (Go.bits .xor .u32 y1 y2) y3+Go.bits .xor .u32 (Go.bits .xor .u32 (Go.bits .and .u32 s.a s.b) (Go.bits .and .u32 s.a s.c)) (Go.bits .and .u32 s.b s.c))%4294967296,s.a,s.b,s.c,(s.d+(s.h+Go.bits .xor .u32 (Go.bits .xor .u32 y4 y5) y6+Go.bits .xor .u32 (Go.bits .and .u32 s.e s.f) (Go.bits .and .u32 (Go.bits .xor .u32 IntKind.u32.max s.e) s.g)+add))%4294967296,s.e,s.f,s.g⟩:=by
  unfold Sums.rround
  rw [G1.out,G2.out,G3.out,G4.out,G5.out,G6.out]
  rfl
 have hW:=fun n=>put8_words (s:=⟨0,0,0,0,0,0,0,0⟩) (HJ.out.drewN n) (s.rround add).a (s.rround add).b (s.rround add).c (s.rround add).d (s.rround add).e (s.rround add).f (s.rround add).g (s.rround add).h
 have hB2:=fun n=>put8_below (w0:=w) (w:=W1.drewN n) ⟨HB.out.os,HB.out.tape,HB.out.output,HB.out.size,HB.out.block⟩ (g:=g+1) (by have:=HG.out;omega) (s.rround add).a (s.rround add).b (s.rround add).c (s.rround add).d (s.rround add).e (s.rround add).f (s.rround add).g (s.rround add).h
 obtain ⟨S,hS⟩ : ∃S,S=s.rround add:=⟨_,rfl⟩
 rw [<-hS] at hR hW hB2
 rw [<-hS]
 obtain ⟨va,hva⟩ : ∃va,va=S.a:=⟨_,rfl⟩
 obtain ⟨ve,hve⟩ : ∃ve,ve=S.e:=⟨_,rfl⟩
 clear c0 c1 c2 c3 c4 c5 c6 c7 d0 d1 d2 d3 d4 d5 d6 d7 f0 f1 f2 f3 f4 f5 f6 f7
 have hSa:S.a=_:=congrArg Sums.a hR
 have hSe:S.e=_:=congrArg Sums.e hR
 have hSb:S.b=s.a:=congrArg Sums.b hR
 have hSc:S.c=s.b:=congrArg Sums.c hR
 have hSd:S.d=s.c:=congrArg Sums.d hR
 have hSf:S.f=s.e:=congrArg Sums.f hR
 have hSg:S.g=s.f:=congrArg Sums.g hR
 have hSh:S.h=s.g:=congrArg Sums.h hR
 simp only [hSb,hSc,hSd,hSf,hSg,hSh] at hW hB2
 rw [hSa,hSe] at hW hB2
 refine bodyPost_ret (v:=S.agg) (results_round _ (g+1) S ?_ _ rfl) rfl ⟨rfl,hB2 _⟩
 rw [hR]
 exact hW _
theorem results_row (fn:Func) (g t:Nat) (n e:Nat) (slot:Nat) (cs:Array Value) (tm:Array Value) (W:World) (hf:fn.results = #[.cell slot t]) (hu:Tryz.prog.underlying t=some (.array n e)) (hi:(Tryz.prog.info? t).map (·.size)=some cs.size)
 (h:W.heap[g]? = some (.cells cs t (0,0))) (h4:tm.getD slot undef = .pointer (some ⟨g,0,none⟩)):(results fn tm).run Tryz.prog W = .ok (.agg cs) W:=by
 unfold results
 rw [hf]
 have hl:=run_loadVar_row (P:=Tryz.prog) W g t t cs (0,0) (.array n e) h hu rfl hi
 have h4':tm[slot]?.getD undef = .pointer (some ⟨g,0,none⟩):=by simpa using h4
 simp [h4',asAddr,hl]
set_option maxHeartbeats 4000000 in
set_option maxRecDepth 100000 in
theorem adds_calls (w:World):
 Calls Tryz.prog 90 #[] w fun e w'=>e = .returned (.agg (words shaAdded))/\Below w.heap.size w w':=by
 go_enter Tryz.func90,Tryz.ntmps90
 have hbl:Tryz.prog.built 130 ((List.range 64).map fun i=>(i,Value.int .u32 (shaAdded.getD i 0)))=some (words shaAdded):=by kernel_rfl
 go_wp2_with (first|(refine wpList_build rfl 130 _ rfl (by kernel_rfl) ?_)|(refine wpList_store_row rfl 130 (.tmp 0) (.tmp 1) rfl w.heap.size (words shaAdded) rfl (by kernel_rfl) 130 _ (heap_alloc_new w _) (by kernel_rfl) (by kernel_rfl) (by kernel_rfl) ?_))
 refine bodyPost_ret (v:=.agg (words shaAdded)) (results_row _ w.heap.size 130 64 123 0 _ _ _ rfl Tryz.underlying130 (by kernel_rfl) (setRow_heap _ _ _ _ _ _ (heap_alloc_new w _)) rfl) rfl ⟨rfl,below_setRow (below_alloc (Below.refl _ _) _) (Nat.le_refl _) _⟩
end Go.Proofs.YtdeneoknjeegbaaGreatDoor.P
end
section
namespace Go.Proofs.YtdeneoknjeegbaaGreatDoor.P
open Go.RowKit YtdeneoknjeegbaaGreatDoorW.PrintWords YtdeneoknjeegbaaGreatDoorW.PrintLast YtdeneoknjeegbaaGreatDoorW.PrintMore
attribute [local go_sem] max2_int min2_int max_two min_two max_three min_three max_four min_four
def annalsref01_word.f (l0:List Int):Option (Int):=if 0<(l0.length:Int) then (if 1<(l0.length:Int) then (if 2<(l0.length:Int) then (if 3<(l0.length:Int) then (some ((((((((((rd l0 0)%4294967296)*16777216)%4294967296)+((((rd l0 1)%4294967296)*65536)%4294967296))%4294967296)+((((rd l0 2)%4294967296)*256)%4294967296))%4294967296)+((rd l0 3)%4294967296))%4294967296)) else (none)) else (none)) else (none)) else (none)
set_option maxHeartbeats 8000000 in
set_option maxRecDepth 100000 in
theorem annalsref01_word.calls (A0:Option Addr) (c0:Nat) (l0:List Int) (r:Int) (w:World) (hr0:Kd.C (Kd.int .u8) w A0 l0.length l0) (hc0:l0.length<=c0) (h:annalsref01_word.f l0=some r):
 Calls Tryz.prog 92 #[.slice A0 l0.length c0] w fun e w'=>e = .returned (.int .u32 r)/\Drawn0 w w':=by
 have HR0:=z_ hr0
 have HC0:=z_ hc0
 clear hr0 hc0
 have H:(if 0<(l0.length:Int) then (if 1<(l0.length:Int) then (if 2<(l0.length:Int) then (if 3<(l0.length:Int) then (some ((((((((((rd l0 0)%4294967296)*16777216)%4294967296)+((((rd l0 1)%4294967296)*65536)%4294967296))%4294967296)+((((rd l0 2)%4294967296)*256)%4294967296))%4294967296)+((rd l0 3)%4294967296))%4294967296)) else (none)) else (none)) else (none)) else (none))=some r:=h
 clear h
 by_cases c2:0<(l0.length:Int)
 ·rw [if_pos c2] at H
  have c2b0:decide (0<(l0.length:Int))=true:=decide_eq_true c2
  have c2b1:decide (0<l0.length)=true:=decide_eq_true (by omega)
  clear c2
  by_cases c3:1<(l0.length:Int)
  ·rw [if_pos c3] at H
   have c3b0:decide (1<(l0.length:Int))=true:=decide_eq_true c3
   have c3b1:decide (1<l0.length)=true:=decide_eq_true (by omega)
   clear c3
   by_cases c4:2<(l0.length:Int)
   ·rw [if_pos c4] at H
    have c4b0:decide (2<(l0.length:Int))=true:=decide_eq_true c4
    have c4b1:decide (2<l0.length)=true:=decide_eq_true (by omega)
    clear c4
    by_cases c5:3<(l0.length:Int)
    ·rw [if_pos c5] at H
     have c5b0:decide (3<(l0.length:Int))=true:=decide_eq_true c5
     have c5b1:decide (3<l0.length)=true:=decide_eq_true (by omega)
     clear c5
     obtain rfl:=Option.some.inj H
     have p268:0<=(0:Int):=(by omega)
     have q268:0<(l0.length:Int):=of_decide_eq_true (by first|(with_reducible assumption)|assumption)
     obtain ⟨ad268,e268,hx268_0⟩:=Kd.at_int HR0.out 0 p268 q268
     cases e268
     have qi268:(0<l0.length)=True:=eq_true (by omega)
     (try rw [show ((0:Int)).toNat=0 from rfl] at hx268_0)
     (try rw [Addr.add_zero'] at hx268_0)
     replace p268:=eq_true p268
     replace q268:=eq_true q268
     have p269:0<=(1:Int):=(by omega)
     have q269:1<(l0.length:Int):=of_decide_eq_true (by first|(with_reducible assumption)|assumption)
     obtain ⟨ad269,e269,hx269_0⟩:=Kd.at_int HR0.out 1 p269 q269
     obtain rfl:ad268=ad269:=(by injection e269)
     (try simp only [show (1:Int).toNat=1 from rfl,Nat.reduceMul,Nat.reduceEqDiff,Go.Addr.add,↓reduceIte] at hx269_0)
     have qi269:(1<l0.length)=True:=eq_true (by omega)
     (try rw [show ((1:Int)).toNat=1 from rfl] at hx269_0)
     replace p269:=eq_true p269
     replace q269:=eq_true q269
     have p270:0<=(2:Int):=(by omega)
     have q270:2<(l0.length:Int):=of_decide_eq_true (by first|(with_reducible assumption)|assumption)
     obtain ⟨ad270,e270,hx270_0⟩:=Kd.at_int HR0.out 2 p270 q270
     obtain rfl:ad268=ad270:=(by injection e270)
     (try simp only [show (2:Int).toNat=2 from rfl,Nat.reduceMul,Nat.reduceEqDiff,Go.Addr.add,↓reduceIte] at hx270_0)
     have qi270:(2<l0.length)=True:=eq_true (by omega)
     (try rw [show ((2:Int)).toNat=2 from rfl] at hx270_0)
     replace p270:=eq_true p270
     replace q270:=eq_true q270
     have p271:0<=(3:Int):=(by omega)
     have q271:3<(l0.length:Int):=of_decide_eq_true (by first|(with_reducible assumption)|assumption)
     obtain ⟨ad271,e271,hx271_0⟩:=Kd.at_int HR0.out 3 p271 q271
     obtain rfl:ad268=ad271:=(by injection e271)
     (try simp only [show (3:Int).toNat=3 from rfl,Nat.reduceMul,Nat.reduceEqDiff,Go.Addr.add,↓reduceIte] at hx271_0)
     have qi271:(3<l0.length)=True:=eq_true (by omega)
     (try rw [show ((3:Int)).toNat=3 from rfl] at hx271_0)
     replace p271:=eq_true p271
     replace q271:=eq_true q271
     go_enter Tryz.func92,Tryz.ntmps92
     go_wp2
     repeat (go_quiet (fail);try go_wp2)
     go_ret
     exact ⟨by first|rfl|(simp;done)|(simp [*];done),by repeat (first|exact Drawn0.refl _|apply Drawn0.step)⟩
    ·rw [if_neg c5] at H
     exact absurd H (by simp)
   ·rw [if_neg c4] at H
    exact absurd H (by simp)
  ·rw [if_neg c3] at H
   exact absurd H (by simp)
 ·rw [if_neg c2] at H
  exact absurd H (by simp)
def annalsref01_Blocks.f (a0:Int):Option (Int):=if a0<0 then (some (((0:Int)/64)+(((((0:Int)%64)+9)+63)/64))) else (some (wrap64 ((wrap64 (Int.tdiv a0 64))+(wrap64 (Int.tdiv (wrap64 ((wrap64 ((Int.tmod a0 64)+9))+63)) 64)))))
set_option maxHeartbeats 8000000 in
set_option maxRecDepth 100000 in
theorem annalsref01_Blocks.calls (a0:Int) (r:Int) (w:World) (h:annalsref01_Blocks.f a0=some r):
 Calls Tryz.prog 91 #[.int .i64 a0] w fun e w'=>e = .returned (.int .i64 r)/\Drawn0 w w':=by
 have H:(if a0<0 then (some (((0:Int)/64)+(((((0:Int)%64)+9)+63)/64))) else (some (wrap64 ((wrap64 (Int.tdiv a0 64))+(wrap64 (Int.tdiv (wrap64 ((wrap64 ((Int.tmod a0 64)+9))+63)) 64))))))=some r:=h
 clear h
 by_cases c2:a0<0
 ·rw [if_pos c2] at H
  have c2b0:decide (a0<0)=true:=decide_eq_true c2
  clear c2
  obtain rfl:=Option.some.inj H
  go_enter Tryz.func91,Tryz.ntmps91
  go_wp2
  go_ret
  exact ⟨by first|rfl|(simp;done)|(simp [*];done),by repeat (first|exact Drawn0.refl _|apply Drawn0.step)⟩
 ·rw [if_neg c2] at H
  have c2b0:decide (a0<0)=false:=decide_eq_false c2
  clear c2
  obtain rfl:=Option.some.inj H
  go_enter Tryz.func91,Tryz.ntmps91
  go_wp2
  go_ret
  exact ⟨by first|rfl|(simp;done)|(simp [*];done),by repeat (first|exact Drawn0.refl _|apply Drawn0.step)⟩
end Go.Proofs.YtdeneoknjeegbaaGreatDoor.P
end
section
namespace Go.Proofs.YtdeneoknjeegbaaGreatDoor.P
open Go.RowKit YtdeneoknjeegbaaGreatDoorW.PrintWords YtdeneoknjeegbaaGreatDoorW.PrintLast YtdeneoknjeegbaaGreatDoorW.PrintMore
def rblocks (n:Nat):Nat:=n/64+(n%64+72)/64
theorem rblocks_f (n:Nat) (hn:n<=140737488355328):annalsref01_Blocks.f (n:Int)=some (rblocks n:Int):=by
 unfold annalsref01_Blocks.f rblocks
 rw [if_neg (by omega)]
 congr 1
 have e1:Int.tdiv (n:Int) 64=(n:Int)/64:=Int.tdiv_eq_ediv_of_nonneg (by omega)
 have e2:Int.tmod (n:Int) 64=(n:Int)%64:=Int.tmod_eq_emod_of_nonneg (by omega)
 have e3:wrap64 (wrap64 ((n:Int)%64+9)+63)=(n:Int)%64+72:=by unfold wrap64;omega
 rw [e1,e2,e3,Int.tdiv_eq_ediv_of_nonneg (by omega)]
 unfold wrap64
 omega
def rpad (bs:List Int) (k:Nat):List Int:=bs++[128]++List.replicate k 0
def rzeros (n:Nat):Nat:=64*rblocks n-8-(n+1)
theorem rzeros_eq (n:Nat):n+1+rzeros n+8=64*rblocks n:=by unfold rzeros rblocks;omega
theorem rzeros_le (n:Nat):rzeros n<=64:=by unfold rzeros rblocks;omega
def rlen (n:Nat):Nat->List Int
 | 0=>[]
 | k+1=>rlen n k++[(8*(n:Int))/2^(56-8*(k:Int)).toNat%256]
theorem rlen_length (n k:Nat):(rlen n k).length=k:=by
 induction k with
 | zero=>rfl
 | succ k ih=>simp [rlen,ih]
def rtext (bs:List Int):List Int:=rpad bs (rzeros bs.length)++rlen bs.length 8
theorem rpad_length (bs:List Int) (k:Nat):(rpad bs k).length=bs.length+1+k:=by simp [rpad];omega
theorem rtext_length (bs:List Int):(rtext bs).length=64*rblocks bs.length:=by
 unfold rtext
 rw [List.length_append,rpad_length,rlen_length]
 exact rzeros_eq _
def rword (ts:List Int):Int:=(annalsref01_word.f ts).getD 0
theorem rword_f (ts:List Int) (h:4<=ts.length):annalsref01_word.f ts=some (rword ts):=by
 unfold rword annalsref01_word.f
 rw [if_pos (by omega),if_pos (by omega),if_pos (by omega),if_pos (by omega)]
 rfl
def rnext (ws:List Int) (i:Nat):Int:=
 let a:=ws.getD (i-15) 0
 let c:=ws.getD (i-2) 0
 (ws.getD (i-16) 0+Go.bits .xor .u32 (Go.bits .xor .u32 ((annalsref01_right.f a 7).getD 0) ((annalsref01_right.f a 18).getD 0)) (a/8)+ws.getD (i-7) 0+Go.bits .xor .u32 (Go.bits .xor .u32 ((annalsref01_right.f c 17).getD 0) ((annalsref01_right.f c 19).getD 0)) (c/1024))%4294967296
def rws (ts:List Int) (at_:Nat):Nat->List Int
 | 0=>zeros64
 | i+1=>(rws ts at_ i).set i (if i<16 then rword (ts.drop (at_+4*i)) else rnext (rws ts at_ i) i)
theorem rws_length (ts:List Int) (p i:Nat):(rws ts p i).length=64:=by
 induction i with
 | zero=>rfl
 | succ i ih=>simp [rws,ih]
def rrounds (ts:List Int) (p:Nat) (h:Sums):Nat->Sums
 | 0=>h
 | i+1=>(rrounds ts p h i).rround ((shaAdded.getD i 0+(rws ts p (i+1)).getD i 0)%4294967296)
def rsums (ts:List Int):Nat->Sums
 | 0=>Sums.first
 | m+1=>Sums.of (addW (rsums ts m).list (rrounds ts (64*m) (rsums ts m) 64).list 8)
def rout (ws:List Int):Nat->List Int
 | 0=>[]
 | k+1=>rout ws k++[ws.getD k 0/16777216%256,ws.getD k 0/65536%256,ws.getD k 0/256%256,ws.getD k 0%256]
theorem rout_length (ws:List Int) (k:Nat):(rout ws k).length=4*k:=by
 induction k with
 | zero=>rfl
 | succ k ih=>simp [rout,ih];omega
def refSum (bs:List Int):List Int:=rout (rsums (rtext bs) (rblocks bs.length)).list 8
theorem round_calls2 (s:Sums) (add:Int) (w:World):
 Calls Tryz.prog 94 #[.agg #[.int .u32 s.a,.int .u32 s.b,.int .u32 s.c,.int .u32 s.d,.int .u32 s.e,.int .u32 s.f,.int .u32 s.g,.int .u32 s.h],.int .u32 add] w fun e w'=>e = .returned (.agg #[.int .u32 (s.rround add).a,.int .u32 (s.rround add).b,.int .u32 (s.rround add).c,.int .u32 (s.rround add).d,.int .u32 (s.rround add).e,.int .u32 (s.rround add).f,.int .u32 (s.rround add).g,.int .u32 (s.rround add).h])/\Below w.heap.size w w':=
 round_calls s add w
set_option maxRecDepth 100000 in
theorem words8_index (s:Sums) (k:Nat) (hk:k<8) (w:World):(Instr.index 124 (.agg #[.int .u32 s.a,.int .u32 s.b,.int .u32 s.c,.int .u32 s.d,.int .u32 s.e,.int .u32 s.f,.int .u32 s.g,.int .u32 s.h]) (.int .i64 (k:Int))).run Tryz.prog w = .ok (.int .u32 (s.list.getD k 0)) w:=by
 rcases (show k=0\/k=1\/k=2\/k=3\/k=4\/k=5\/k=6\/k=7 by omega) with rfl|rfl|rfl|rfl|rfl|rfl|rfl|rfl
 all_goals kernel_rfl
theorem IsWords.grown {w w1:World} {g t e base:Nat} {xs:List Int} {v:Value} {ok:Nat->Prop} {ys:List Int} (h:IsWords w g t xs) (hR:Kd.R (Kd.int .u8) e w base ok v ys) (hne:e≠t) (hg:w.grownBy w1 v.ownBlock):IsWords w1 g t xs:=
 (hg.block g h.lt (Kd.R_ne hR h hne)).trans h
structure RefMem (w0 w:World) (g3 g4:Nat) (hs:List Int):Prop where
 h3:IsWords w g3 124 hs
 h4:IsWords w g4 130 shaAdded
 bel:Below w0.heap.size w0 w
 ge3:w0.heap.size<=g3
 ne:g3≠g4
theorem RefMem.grown {w0 w w1:World} {g3 g4 base:Nat} {hs ys:List Int} {v:Value} {ok:Nat->Prop} (h:RefMem w0 w g3 g4 hs) (hR:Kd.R (Kd.int .u8) 5 w base ok v ys) (hg:w.grownBy w1 v.ownBlock) (hb:Below w0.heap.size w0 w1):RefMem w0 w1 g3 g4 hs:=
 ⟨h.h3.grown hR (by decide) hg,h.h4.grown hR (by decide) hg,hb,h.ge3,h.ne⟩
theorem RefMem.below {w0 w w1:World} {g3 g4:Nat} {hs:List Int} (h:RefMem w0 w g3 g4 hs) (hb:Below w.heap.size w w1):RefMem w0 w1 g3 g4 hs:=
 ⟨h.h3.below hb h.h3.lt,h.h4.below hb h.h4.lt,h.bel.trans (hb.mono h.bel.size),h.ge3,h.ne⟩
theorem RefMem.start {w0 w1:World} {o3 o4:Obj} {hs:List Int} (ho:o3 = .cells (words hs) 124 (0,0)) (hb:Below (w0.alloc o3).heap.size (w0.alloc o3) w1) {old:Array Value} (ho4:o4 = .cells old 130 (0,0)):
 RefMem w0 ((w1.alloc o4).setRow w1.heap.size (words shaAdded)) w0.heap.size w1.heap.size hs:=by
 have hz:(w0.alloc o3).heap.size=w0.heap.size+1:=by simp
 have h0:IsWords (w0.alloc o3) w0.heap.size 124 hs:=by
  rw [ho]
  exact heap_alloc_new w0 _
 have hs1:w0.heap.size+1<=w1.heap.size:=by rw [<-hz];exact hb.size
 have h1:IsWords w1 w0.heap.size 124 hs:=h0.below hb (by omega)
 have ha:Below w1.heap.size w1 ((w1.alloc o4).setRow w1.heap.size (words shaAdded)):=below_setRow (below_alloc (Below.refl _ _) _) (Nat.le_refl _) _
 refine ⟨h1.below ha (by omega),?_,?_,Nat.le_refl _,by omega⟩
 ·exact setRow_heap _ _ _ _ _ _ (by rw [ho4];exact heap_alloc_new w1 _)
 ·exact (below_alloc (Below.refl _ _) _).trans ((hb.trans (ha.mono hb.size)).mono (by omega))
structure RefMem2 (w0 w:World) (g3 g4 g8 g9:Nat) (hs ws:List Int) (v:Sums) (vt:Value) (T:List Int):Prop where
 mem:RefMem w0 w g3 g4 hs
 h8:IsWords w g8 130 ws
 h9:IsWords w g9 124 v.list
 txt:Kd.R (Kd.int .u8) 5 w w0.heap.size (fun _=>True) vt T
 ge8:w0.heap.size<=g8
 ge9:w0.heap.size<=g9
 n38:g3≠g8
 n48:g4≠g8
 n39:g3≠g9
 n49:g4≠g9
 n89:g8≠g9
theorem RefMem2.below {w0 w w1:World} {g3 g4 g8 g9:Nat} {hs ws:List Int} {v:Sums} {vt:Value} {T:List Int} (h:RefMem2 w0 w g3 g4 g8 g9 hs ws v vt T) (hb:Below w.heap.size w w1):RefMem2 w0 w1 g3 g4 g8 g9 hs ws v vt T:=
 ⟨h.mem.below hb,h.h8.below hb h.h8.lt,h.h9.below hb h.h9.lt,Kd.R_below h.txt hb,h.ge8,h.ge9,h.n38,h.n48,h.n39,h.n49,h.n89⟩
theorem RefMem2.drewN {w0 w:World} {g3 g4 g8 g9:Nat} {hs ws:List Int} {v:Sums} {vt:Value} {T:List Int} (h:RefMem2 w0 w g3 g4 g8 g9 hs ws v vt T) (n:Nat):RefMem2 w0 (w.drewN n) g3 g4 g8 g9 hs ws v vt T:=
 h.below (pw_below_drewN (Below.refl _ _) n)
theorem RefMem.far {w0 w:World} {g3 g4 g:Nat} {hs:List Int} (h:RefMem w0 w g3 g4 hs) (h3:g3≠g) (h4:g4≠g) (hg:w0.heap.size<=g) (i:Nat) (u:Value):RefMem w0 (w.setCell ⟨g,i,none⟩ u) g3 g4 hs:=
 ⟨blk_far h.h3 h3 _,blk_far h.h4 h4 _,h.bel.setCell hg _,h.ge3,h.ne⟩
theorem RefMem2.set8 {w0 w:World} {g3 g4 g8 g9:Nat} {hs ws:List Int} {v:Sums} {vt:Value} {T:List Int} (h:RefMem2 w0 w g3 g4 g8 g9 hs ws v vt T) (i:Nat) (x:Int):RefMem2 w0 (w.setCell ⟨g8,i,none⟩ (.int .u32 x)) g3 g4 g8 g9 hs (ws.set i x) v vt T:=
 ⟨h.mem.far h.n38 h.n48 h.ge8 _ _,h.h8.set i x,blk_far h.h9 (Ne.symm h.n89) _,Kd.R_set h.txt h.h8 (by decide) _ _,h.ge8,h.ge9,h.n38,h.n48,h.n39,h.n49,h.n89⟩
theorem RefMem2.set9 {w0 w:World} {g3 g4 g8 g9:Nat} {hs ws:List Int} {v v':Sums} {vt:Value} {T:List Int} (h:RefMem2 w0 w g3 g4 g8 g9 hs ws v vt T) (i:Nat) (x:Int) (hv:v'.list=v.list.set i x):RefMem2 w0 (w.setCell ⟨g9,i,none⟩ (.int .u32 x)) g3 g4 g8 g9 hs ws v' vt T:=
 ⟨h.mem.far h.n39 h.n49 h.ge9 _ _,blk_far h.h8 h.n89 _,by rw [hv];exact h.h9.set i x,Kd.R_set h.txt h.h9 (by decide) _ _,h.ge8,h.ge9,h.n38,h.n48,h.n39,h.n49,h.n89⟩
theorem RefMem2.put9 {w0 w:World} {g3 g4 g8 g9:Nat} {hs ws:List Int} {v:Sums} {vt:Value} {T:List Int} (h:RefMem2 w0 w g3 g4 g8 g9 hs ws v vt T) (s:Sums):RefMem2 w0 (put8 w g9 s.a s.b s.c s.d s.e s.f s.g s.h) g3 g4 g8 g9 hs ws s vt T:=by
 have h0:=h.set9 (v':=⟨s.a,v.b,v.c,v.d,v.e,v.f,v.g,v.h⟩) 0 s.a rfl
 have h1:=h0.set9 (v':=⟨s.a,s.b,v.c,v.d,v.e,v.f,v.g,v.h⟩) 1 s.b rfl
 have h2:=h1.set9 (v':=⟨s.a,s.b,s.c,v.d,v.e,v.f,v.g,v.h⟩) 2 s.c rfl
 have h3:=h2.set9 (v':=⟨s.a,s.b,s.c,s.d,v.e,v.f,v.g,v.h⟩) 3 s.d rfl
 have h4:=h3.set9 (v':=⟨s.a,s.b,s.c,s.d,s.e,v.f,v.g,v.h⟩) 4 s.e rfl
 have h5:=h4.set9 (v':=⟨s.a,s.b,s.c,s.d,s.e,s.f,v.g,v.h⟩) 5 s.f rfl
 have h6:=h5.set9 (v':=⟨s.a,s.b,s.c,s.d,s.e,s.f,s.g,v.h⟩) 6 s.g rfl
 exact h6.set9 (v':=s) 7 s.h rfl
theorem RefMem2.set3 {w0 w:World} {g3 g4 g8 g9:Nat} {hs ws:List Int} {v:Sums} {vt:Value} {T:List Int} (h:RefMem2 w0 w g3 g4 g8 g9 hs ws v vt T) (i:Nat) (x:Int):RefMem2 w0 (w.setCell ⟨g3,i,none⟩ (.int .u32 x)) g3 g4 g8 g9 (hs.set i x) ws v vt T:=
 ⟨⟨h.mem.h3.set i x,blk_far h.mem.h4 (Ne.symm h.mem.ne) _,h.mem.bel.setCell h.mem.ge3 _,h.mem.ge3,h.mem.ne⟩,blk_far h.h8 (Ne.symm h.n38) _,blk_far h.h9 (Ne.symm h.n39) _,Kd.R_set h.txt h.mem.h3 (by decide) _ _,h.ge8,h.ge9,h.n38,h.n48,h.n39,h.n49,h.n89⟩
theorem RefMem2.start {w wr W4:World} {g3 g4:Nat} {v:Sums} {vt:Value} {T:List Int} (hM:RefMem w wr g3 g4 v.list) (hT:Kd.R (Kd.int .u8) 5 wr w.heap.size (fun _=>True) vt T) {o8 o9:Obj} (hW4:W4=(wr.alloc o8).alloc o9)
 (h8:o8 = .cells (words zeros64) 130 (0,0)) (h9:o9 = .cells (words v.list) 124 (0,0)):RefMem2 w W4 g3 g4 wr.heap.size (wr.heap.size+1) v.list zeros64 v vt T:=by
 have hz:(wr.alloc o8).heap.size=wr.heap.size+1:=by simp
 have b1:=below_alloc (Below.refl wr.heap.size wr) o8
 have b2:=below_alloc (Below.refl (wr.alloc o8).heap.size (wr.alloc o8)) o9
 have i8:IsWords (wr.alloc o8) wr.heap.size 130 zeros64:=by
  rw [h8]
  exact heap_alloc_new wr _
 have i9:IsWords W4 (wr.heap.size+1) 124 v.list:=by
  rw [hW4,<-hz,h9]
  exact heap_alloc_new _ _
 have b3:Below wr.heap.size wr W4:=by
  rw [hW4]
  exact b1.trans (b2.mono (by omega))
 have l3:=hM.h3.lt
 have l4:=hM.h4.lt
 have ls:=hM.bel.size
 exact ⟨hM.below b3,by rw [hW4];exact i8.below b2 (by omega),i9,Kd.R_below hT b3,ls,by omega,by omega,by omega,by omega,by omega,by omega⟩
theorem name2 {G:World->Prop} {w:World} {o o':Obj} (h : ∀W,W=(w.alloc o).alloc o'->G W):G ((w.alloc o).alloc o'):=h _ rfl
theorem word_at (A2:Option Addr) (c:Nat) (T:List Int) (j:Nat) (x:Int) (w:World) (hC:Kd.C (Kd.int .u8) w A2 (T.drop j).length (T.drop j)) (hc:(T.drop j).length<=c) (h:annalsref01_word.f (T.drop j)=some x):
 Calls Tryz.prog 92 #[.slice A2 (T.length-j) c] w fun e w'=>e = .returned (.int .u32 x)/\Drawn0 w w':=by
 rw [<-List.length_drop]
 exact annalsref01_word.calls A2 c (T.drop j) x w hC hc h
theorem RefMem2.drew {w0 w:World} {g3 g4 g8 g9:Nat} {hs ws:List Int} {v:Sums} {vt:Value} {T:List Int} (h:RefMem2 w0 w g3 g4 g8 g9 hs ws v vt T):RefMem2 w0 w.drew g3 g4 g8 g9 hs ws v vt T:=
 h.below (below_drew (Below.refl _ _))
set_option maxHeartbeats 4000000 in
set_option maxRecDepth 100000 in
theorem rsum_any (A0:Option Addr) (cap:Nat) (bs:List Int) (w:World) (hr:Kd.C (Kd.int .u8) w A0 bs.length bs) (hc:bs.length<=cap) (hb:bs.length<=140737488355000):
 Calls Tryz.prog 86 #[.slice A0 bs.length cap] w fun e w'=>∃v0_,e = .returned v0_/\Kd.R (Kd.int .u8) 5 w' w.heap.size (fun _=>True) v0_ (refSum bs)/\Below w.heap.size w w':=by
 have HR:=z_ hr
 have HC:=z_ hc
 have HBB:=z_ hb
 clear hr hc hb
 go_enter Tryz.func86,Tryz.ntmps86
 go_wp2_with fail
 refine (adds_calls _).mono ?_
 rintro e1 w1 ⟨rfl,hB1⟩
 have HB1:=z_ hB1
 clear hB1
 go_wp2_with (first|(refine wpList_store_row rfl 130 (.tmp 4) (.tmp 18) rfl w1.heap.size (words shaAdded) rfl rfl 130 _ (heap_alloc_new w1 _) (by kernel_rfl) (by kernel_rfl) (by kernel_rfl) ?_;have HM:=RefMem.start (w0:=w) (hs:=shaFirst) rfl HB1.out (o4:=Obj.cells (#[.int .u32 0,.int .u32 0,.int .u32 0,.int .u32 0,.int .u32 0,.int .u32 0,.int .u32 0,.int .u32 0,.int .u32 0,.int .u32 0,.int .u32 0,.int .u32 0,.int .u32 0,.int .u32 0,.int .u32 0,.int .u32 0,.int .u32 0,.int .u32 0,.int .u32 0,.int .u32 0,.int .u32 0,.int .u32 0,.int .u32 0,.int .u32 0,.int .u32 0,.int .u32 0,.int .u32 0,.int .u32 0,.int .u32 0,.int .u32 0,.int .u32 0,.int .u32 0,.int .u32 0,.int .u32 0,.int .u32 0,.int .u32 0,.int .u32 0,.int .u32 0,.int .u32 0,.int .u32 0,.int .u32 0,.int .u32 0,.int .u32 0,.int .u32 0,.int .u32 0,.int .u32 0,.int .u32 0,.int .u32 0,.int .u32 0,.int .u32 0,.int .u32 0,.int .u32 0,.int .u32 0,.int .u32 0,.int .u32 0,.int .u32 0,.int .u32 0,.int .u32 0,.int .u32 0,.int .u32 0,.int .u32 0,.int .u32 0,.int .u32 0,.int .u32 0]) 130 (0,0)) rfl;obtain ⟨W2,hW2⟩ : ∃W2,W2=(w1.alloc (Obj.cells (#[.int .u32 0,.int .u32 0,.int .u32 0,.int .u32 0,.int .u32 0,.int .u32 0,.int .u32 0,.int .u32 0,.int .u32 0,.int .u32 0,.int .u32 0,.int .u32 0,.int .u32 0,.int .u32 0,.int .u32 0,.int .u32 0,.int .u32 0,.int .u32 0,.int .u32 0,.int .u32 0,.int .u32 0,.int .u32 0,.int .u32 0,.int .u32 0,.int .u32 0,.int .u32 0,.int .u32 0,.int .u32 0,.int .u32 0,.int .u32 0,.int .u32 0,.int .u32 0,.int .u32 0,.int .u32 0,.int .u32 0,.int .u32 0,.int .u32 0,.int .u32 0,.int .u32 0,.int .u32 0,.int .u32 0,.int .u32 0,.int .u32 0,.int .u32 0,.int .u32 0,.int .u32 0,.int .u32 0,.int .u32 0,.int .u32 0,.int .u32 0,.int .u32 0,.int .u32 0,.int .u32 0,.int .u32 0,.int .u32 0,.int .u32 0,.int .u32 0,.int .u32 0,.int .u32 0,.int .u32 0,.int .u32 0,.int .u32 0,.int .u32 0,.int .u32 0]) 130 (0,0))).setRow w1.heap.size (words shaAdded):=⟨_,rfl⟩;rw [<-hW2] at HM;rw [<-hW2];clear hW2;replace HM:=z_ HM)|((with_reducible refine gate_builtin (b:=.append) (xs:=#[.tmp 19,.tmp 20]) rfl ?_);go_must (at_builtin;refine Kd.R_append_rows (Kd.int .u8) (w0:=w) w.heap.size rfl (.tmp 19) (.tmp 20) 23 5 (.int .u8 0) 1 rfl Tryz.underlying23 info5 rfl (by decide) (by omega) (.slice none 0 0) [] bs _ _ _ (fun _=>True) (fun _=>False) rfl rfl ?aO ?aR (fun _ _ h=>h) (fun _ h=>h.elim) ?aF ?aB ?aS ?aL ?_;(case aR=>exact Kd.C_below HR.out HM.out.bel);(case aB=>exact HM.out.bel);(case aF=>exact (fun _ _=>trivial));(case aO=>exact Kd.R_nil _ _ _ _ _);(case aS=>exact HM.out.bel.size);(case aL=>have:=HBB.out;simp;omega);intro v2 w2 ho hb2 hg hat;rw [List.nil_append] at ho;have HM2:=z_ (HM.out.grown (Kd.R_nil (Kd.int .u8) _ _ w.heap.size (fun _=>True)) hg hb2);have HO2:=z_ ho;clear ho hb2 hg hat HM))|((with_reducible refine gate_builtin (b:=.append) (xs:=#[.tmp 21,.tmp 22]) rfl ?_);go_must (at_builtin;refine Kd.R_append (Kd.int .u8) (w0:=w) w.heap.size rfl (.tmp 21) (.tmp 22) 23 5 (.int .u8 0) 1 rfl Tryz.underlying23 info5 rfl (by decide) (by omega) v2 bs 128 [.int .u8 128] (fun _=>True) (fun _=>False) rfl rfl ?aP (fun _ h=>h.elim) ?aF ?aO ?aB ?aS ?aL ?_;(case aP=>exact rfl);(case aB=>exact HM2.out.bel);(case aF=>exact (fun _ _=>trivial));(case aO=>exact HO2.out);(case aS=>exact HM2.out.bel.size);(case aL=>have:=HBB.out;omega);intro v3 w3 ho hb3 hg hat;have HM3:=z_ (HM2.out.grown HO2.out hg hb3);have HO3:=z_ (show Kd.R (Kd.int .u8) 5 w3 w.heap.size (fun _=>True) v3 (rpad bs 0) from by rw [rpad,List.replicate_zero,List.append_nil];exact ho);clear ho hb3 hg hat HM2 HO2)))
 obtain ⟨g3,hg3⟩ : ∃g,g=w.heap.size:=⟨_,rfl⟩
 obtain ⟨g4,hg4⟩ : ∃g,g=w1.heap.size:=⟨_,rfl⟩
 replace HM3:Aside0 (RefMem w w3 g3 g4 shaFirst):=⟨by rw [hg3,hg4];exact HM3.out⟩
 rw [<-hg3,<-hg4]
 clear hg3 hg4 HB1
 obtain ⟨rb,hrb⟩ : ∃rb:Int,rb=(rblocks bs.length:Int):=⟨_,rfl⟩
 have HF:=z_ (rblocks_f bs.length (by have:=HBB.out;omega))
 rw [<-hrb] at HF
 have rb0:0<=rb:=by omega
 have rb1:rb<=4398046511104:=by have:=HBB.out;unfold rblocks at hrb;omega
 have HRB:=z_ hrb
 have hn1:(bs.length:Int)<=140737488355000:=by have:=HBB.out;omega
 clear hrb
 go_loopw [5] (fun v5 wr=>∃k:Nat,k<=rzeros bs.length/\Aside0 (Kd.R (Kd.int .u8) 5 wr w.heap.size (fun _=>True) v5 (rpad bs k))/\Aside0 (RefMem w wr g3 g4 shaFirst)) (fun v5 _=>match v5 with | .slice _ n _=>64*rblocks bs.length-n|_=>0)
 case atStart=>exact ⟨0,by omega,HO3,HM3⟩
 case round=>
  clear HO3 HM3
  obtain ⟨k,hk,HO,HM⟩:=hrel
  obtain ⟨A,c,rfl⟩:=Kd.R_slice HO.out
  have hz:=rzeros_eq bs.length
  obtain ⟨xs,hxs⟩ : ∃xs,xs=rpad bs k:=⟨_,rfl⟩
  have hxl:xs.length=bs.length+1+k:=by rw [hxs];exact rpad_length _ _
  rw [<-hxs] at HO
  rw [<-hxs]
  have HXS:=z_ hxs
  have HXL:=z_ hxl
  have HZ:=z_ hz
  by_cases hlt:k<rzeros bs.length
  ·have hd:decide ((xs.length:Int)<64*rb-8)=true:=by have:=HRB.out;simp;omega
   have HLT:=z_ hlt
   clear hlt hxs hxl hz hk
   go_wp2_with fail
   refine (annalsref01_Blocks.calls (bs.length:Int) rb _ HF.out).mono ?_
   rintro e2 w2 ⟨rfl,hdr⟩
   obtain ⟨q,rfl⟩:=hdr.out
   clear hdr
   go_wp2_with (first|((with_reducible refine gate_builtin (b:=.append) (xs:=#[.tmp 32,.tmp 33]) rfl ?_);go_must (at_builtin;refine Kd.R_append (Kd.int .u8) (w0:=w) w.heap.size rfl (.tmp 32) (.tmp 33) 23 5 (.int .u8 0) 1 rfl Tryz.underlying23 info5 rfl (by decide) (by omega) (.slice A xs.length c) xs 0 [.int .u8 0] (fun _=>True) (fun _=>False) rfl rfl ?aP (fun _ h=>h.elim) ?aF ?aO ?aB ?aS ?aL ?_;(case aP=>exact rfl);(case aB=>exact pw_below_drewN HM.out.bel _);(case aF=>exact (fun _ _=>trivial));(case aO=>exact Kd.R_drewN HO.out _);(case aS=>exact HM.out.bel.size);(case aL=>have:=HBB.out;have:=HXL.out;have:=HLT.out;have:=rzeros_le bs.length;omega);intro v3 w3 ho hb3 hg hat;have HM3:=z_ ((HM.out.below (pw_below_drewN (Below.refl _ _) q)).grown (Kd.R_drewN HO.out q) hg hb3);have HO3:=z_ ho;clear ho hb3 hg hat HM HO)))
   have hxl:=HXL.out
   have hlt:=HLT.out
   have hz:=HZ.out
   have hl1:(xs++[0]).length=xs.length+1:=by simp
   have he:xs++[0]=rpad bs (k+1):=by rw [HXS.out];simp [rpad,List.replicate_succ']
   obtain ⟨A3,c3,rfl⟩:=Kd.R_slice HO3.out
   refine ⟨⟨k+1,by omega,by rw [<-he];exact HO3,HM3⟩,?_⟩
   show 64*rblocks bs.length-(xs++[0]).length<64*rblocks bs.length-xs.length
   omega
  ·have hd:decide ((xs.length:Int)<64*rb-8)=false:=by have:=HRB.out;simp;omega
   have hkz:k=rzeros bs.length:=by omega
   rw [hkz] at HXS
   clear hlt hxs hxl hz hk hkz
   go_wp2_with fail
   refine (annalsref01_Blocks.calls (bs.length:Int) rb _ HF.out).mono ?_
   rintro e2 w2 ⟨rfl,hdr⟩
   obtain ⟨q,rfl⟩:=hdr.out
   clear hdr
   go_wp2_with fail
   replace HO:=z_ (Kd.R_drewN HO.out q)
   replace HM:=z_ (HM.out.below (pw_below_drewN (Below.refl _ _) q))
   obtain ⟨W,hW⟩ : ∃W,W=wr.drewN q:=⟨_,rfl⟩
   rw [<-hW] at HO HM
   rw [<-hW]
   clear hW hd HXL HZ
   obtain ⟨vt,hvt⟩ : ∃vt,vt=Value.slice A xs.length c:=⟨_,rfl⟩
   rw [<-hvt] at HO
   rw [<-hvt]
   clear hvt
   go_loopw [5,6] (fun v5 v6 wr=>∃(k:Nat) (i:Int),Aside0 (k<=8/\i=56-8*(k:Int))/\v6 = .int .i64 i/\ -8<=i/\i<=56/\Aside0 (Kd.R (Kd.int .u8) 5 wr w.heap.size (fun _=>True) v5 (xs++rlen bs.length k))/\Aside0 (RefMem w wr g3 g4 shaFirst)) (fun _ v6 _=>(intOf v6+8).toNat)
   case atStart=>exact ⟨0,56,⟨by omega,by omega⟩,rfl,by omega,by omega,by rw [rlen,List.append_nil];exact HO,HM⟩
   case round=>
    clear HO HM
    obtain ⟨k,i,HK,rfl,hi0,hi1,HO,HM⟩:=hrel
    obtain ⟨A5,c5,rfl⟩:=Kd.R_slice HO.out
    obtain ⟨ys,hys⟩ : ∃ys,ys=xs++rlen bs.length k:=⟨_,rfl⟩
    have hyl:ys.length<=bs.length+1+64+8:=by
     have:=HK.out
     have:=rzeros_le bs.length
     rw [hys,List.length_append,rlen_length,HXS.out,rpad_length]
     omega
    rw [<-hys] at HO
    rw [<-hys]
    have HYS:=z_ hys
    have HYL:=z_ hyl
    clear hys hyl
    by_cases hi:0<=i
    ·have hd:decide (0<=i)=true:=decide_eq_true hi
     obtain ⟨b,hb⟩ : ∃b,b=(8*(bs.length:Int))/2^i.toNat:=⟨_,rfl⟩
     have hq:(8*(bs.length:Int))/2^i.toNat=b:=hb.symm
     have hi64:i<=64:=by omega
     have HB:=z_ hb
     clear hb
     go_wp2_with (first|((with_reducible refine gate_builtin (b:=.append) (xs:=#[.tmp 39,.tmp 47]) rfl ?_);go_must (at_builtin;refine Kd.R_append (Kd.int .u8) (w0:=w) w.heap.size rfl (.tmp 39) (.tmp 47) 23 5 (.int .u8 0) 1 rfl Tryz.underlying23 info5 rfl (by decide) (by omega) (.slice A5 ys.length c5) ys (b%256) [.int .u8 (b%256)] (fun _=>True) (fun _=>False) rfl rfl ?aP (fun _ h=>h.elim) ?aF ?aO ?aB ?aS ?aL ?_;(case aP=>exact rfl);(case aB=>exact HM.out.bel);(case aF=>exact (fun _ _=>trivial));(case aO=>exact HO.out);(case aS=>exact HM.out.bel.size);(case aL=>have:=HBB.out;have:=HYL.out;omega);intro v3 w3 ho hb3 hg hat;have HM3:=z_ (HM.out.grown HO.out hg hb3);have HO3:=z_ ho;clear ho hb3 hg hat HM HO)))
     have hk:=HK.out
     have he:ys++[b%256]=xs++rlen bs.length (k+1):=by rw [HYS.out,HB.out,hk.2,rlen,List.append_assoc]
     refine ⟨⟨k+1,i-8,⟨by omega,by omega⟩,by go_num,by omega,by omega,by rw [<-he];exact HO3,HM3⟩,by simp only [intOf];omega⟩
    ·have hd:decide (0<=i)=false:=decide_eq_false hi
     have hk8:k=8:=by have:=HK.out;omega
     rw [hk8] at HYS
     have hT:ys=rtext bs:=by rw [HYS.out,HXS.out];rfl
     clear hi0 hi1 hk8 HYL
     obtain rfl:=hT
     clear HYS
     obtain ⟨T,hT⟩ : ∃T,T=rtext bs:=⟨_,rfl⟩
     have hTl:T.length=64*rblocks bs.length:=by rw [hT];exact rtext_length bs
     rw [<-hT] at HO
     rw [<-hT]
     have HT:=z_ hT
     have HTL:=z_ hTl
     clear hT hTl hi
     go_wp2_with fail
     clear hd
     go_loopw [7] (fun v7 wr=>∃m p:Nat,m<=rblocks bs.length/\Aside0 (p=64*m)/\v7 = .int .i64 (p:Int)/\Aside0 (RefMem w wr g3 g4 (rsums T m).list)/\Aside0 (Kd.R (Kd.int .u8) 5 wr w.heap.size (fun _=>True) (.slice A5 T.length c5) T)) (fun v7 _=>64*rblocks bs.length-(intOf v7).toNat)
     case atStart=>exact ⟨0,0,by omega,⟨rfl⟩,rfl,HM,HO⟩
     case round=>
      clear HM HO
      obtain ⟨m,p,hm,HP,rfl,HM,HO⟩:=hrel
      by_cases hlt:m<rblocks bs.length
      ·have hd:decide (p<T.length)=true:=by have:=HTL.out;have:=HP.out;simp;omega
       have hp0:(p:Int)<=562949953421312:=by have:=HBB.out;have:=HP.out;unfold rblocks at hlt;omega
       obtain ⟨S,hS⟩ : ∃x,x=rsums T m:=⟨_,rfl⟩
       rw [<-hS] at HM
       have HS:=z_ hS
       obtain ⟨c0,c1,c2,c3,c4,c5',c6,c7⟩:=IsSums.cells HM.out.h3
       have hg3l:g3<wr.heap.size:=HM.out.h3.lt
       have HLT:=z_ hlt
       clear hS hlt hm
       go_wp2_with fail
       clear c0 c1 c2 c3 c4 c5' c6 c7
       refine name2 (fun W4 hW4=>?_)
       have HN:RefMem2 w W4 g3 g4 wr.heap.size (wr.heap.size+1) S.list (rws T p 0) (rrounds T p S 0) (.slice A5 T.length c5) T:=RefMem2.start HM.out HO.out hW4 rfl rfl
       obtain ⟨g8,hg8⟩ : ∃g,g=wr.heap.size:=⟨_,rfl⟩
       rw [<-hg8] at HN
       rw [<-hg8]
       obtain ⟨g9,hg9⟩ : ∃g,g=g8+1:=⟨_,rfl⟩
       rw [<-hg9] at HN
       rw [<-hg9]
       replace HN:=z_ HN
       clear hg8 hg9 hW4 hd hg3l
       go_loopw [56] (fun v56 wq=>∃i:Nat,i<=64/\v56 = .int .i64 (i:Int)/\Aside0 (RefMem2 w wq g3 g4 g8 g9 S.list (rws T p i) (rrounds T p S i) (.slice A5 T.length c5) T)) (fun v56 _=>64-(intOf v56).toNat)
       case atStart=>exact ⟨0,by omega,rfl,HN⟩
       case round=>
        clear HN
        obtain ⟨i,hi,rfl,HN⟩:=hrel
        by_cases hi64:i<64
        ·have hd:decide ((i:Int)<64)=true:=by simp;omega
         have HI64:=z_ hi64
         have hwl:(rws T p i).length=64:=rws_length _ _ _
         have hTl:=HTL.out
         have hpm:=HP.out
         by_cases hi16:i<16
         ·have HI16:=z_ hi16
          have hd2:decide ((i:Int)<16)=true:=by simp;omega
          obtain ⟨j,hj⟩ : ∃j:Nat,j=p+4*i:=⟨_,rfl⟩
          have e1:(p:Int)+4*(i:Int)=(j:Int):=by omega
          have hjm:j+4<=T.length:=by have:=HLT.out;omega
          obtain ⟨_,hcap,hC⟩:=Kd.R_reads' HN.out.txt
          obtain ⟨i0,hi0,_,hsz0,_⟩:=info_parts info5
          obtain ⟨A2,hcut,hA2,hC2⟩:=print_drop_of (P:=Tryz.prog) (Value.int .u8) 0 23 5 .i64 Tryz.underlying23 hi0 hsz0 A5 c5 T (j:Int) (by omega) (by omega) hcap
          have HA2:=z_ (Kd.C_of_reads (h1:=fun _=>rfl) (hA2 _ (Kd.reads_of_C hC)))
          have HC2:=z_ hC2
          rw [Int.toNat_natCast] at HA2 HC2 hcut
          have HJ:=z_ hj
          have hdl:4<=(T.drop j).length:=by rw [List.length_drop];omega
          obtain ⟨x,hx⟩ : ∃x,x=rword (T.drop j):=⟨_,rfl⟩
          have HX:=z_ (rword_f _ hdl)
          rw [<-hx] at HX
          have HXX:=z_ hx
          have hcw:=HN.out.h8.cell i (by omega)
          have hfw:=HN.out.h8.frozen i
          have hi64':(i:Int)<64:=by omega
          have hjl:(j:Int)<=(T.length:Int):=by omega
          clear hA2 hC2 hi0 hsz0 hcap hC hj hjm hdl hx hwl hTl hpm hi64 hi16 hi
          go_wp2_with fail
          refine (word_at A2 (c5-j) T j x _ HA2.out HC2.out HX.out).mono ?_
          rintro e2 w2 ⟨rfl,hdr⟩
          obtain ⟨q,rfl⟩:=hdr.out
          clear hdr
          go_wp2_with fail
          have he:rws T p (i+1)=(rws T p i).set i x:=by
           rw [HXX.out,HJ.out]
           simp only [rws]
           rw [if_pos HI16.out]
          obtain ⟨V,hV⟩ : ∃a,a=rrounds T p S i:=⟨_,rfl⟩
          have HVV:=z_ hV
          rw [<-hV] at HN
          replace HN:Aside0 (RefMem2 w ((wr.drewN q).setCell ⟨g8,i,none⟩ (.int .u32 x)) g3 g4 g8 g9 S.list (rws T p (i+1)) V (.slice A5 T.length c5) T):=⟨by rw [he];exact (HN.out.drewN q).set8 i x⟩
          clear hV he hcut hcw hfw
          refine still_tail_at 8 (by kernel_rfl) (by kernel_rfl) (fun W hW=>?_)
          replace HN:Aside0 (RefMem2 w W g3 g4 g8 g9 S.list (rws T p (i+1)) V (.slice A5 T.length c5) T):=⟨by rw [hW];exact HN.out.drew⟩
          clear hW
          obtain ⟨c0,c1,c2,c3,c4,c5',c6,c7⟩:=IsSums.cells HN.out.h9
          obtain ⟨ai,hai⟩ : ∃a,a=shaAdded.getD i 0:=⟨_,rfl⟩
          obtain ⟨xi,hxi⟩ : ∃a,a=(rws T p (i+1)).getD i 0:=⟨_,rfl⟩
          have ca:=HN.out.mem.h4.cell i (by have:=HI64.out;show i<64;omega)
          have cx:=HN.out.h8.cell i (by rw [rws_length];exact HI64.out)
          rw [<-hai] at ca
          rw [<-hxi] at cx
          have HAX:=z_ (And.intro hai hxi)
          clear hai hxi
          simp only [List.take_succ_cons,List.take_zero,List.drop_succ_cons,List.drop_zero]
          repeat still_step
          refine wpStill_nil ?_
          go_wp2_with fail
          refine (round_calls2 V ((ai+xi)%4294967296) _).mono ?_
          rintro e3 w3 ⟨rfl,hB3⟩
          replace HN:Aside0 (RefMem2 w w3 g3 g4 g8 g9 S.list (rws T p (i+1)) V (.slice A5 T.length c5) T):=⟨HN.out.below hB3⟩
          clear hB3 c0 c1 c2 c3 c4 c5' c6 c7 ca cx
          obtain ⟨V2,hV2⟩ : ∃a,a=V.rround ((ai+xi)%4294967296):=⟨_,rfl⟩
          rw [<-hV2]
          have HV2:=z_ hV2
          clear hV2
          obtain ⟨c0,c1,c2,c3,c4,c5',c6,c7⟩:=IsSums.cells HN.out.h9
          have f0:=HN.out.h9.frozen 0
          have f1:=HN.out.h9.frozen 1
          have f2:=HN.out.h9.frozen 2
          have f3:=HN.out.h9.frozen 3
          have f4:=HN.out.h9.frozen 4
          have f5:=HN.out.h9.frozen 5
          have f6:=HN.out.h9.frozen 6
          have f7:=HN.out.h9.frozen 7
          go_wp2_with fail
          have hN2:=HN.out.put9 V2
          have hr:rrounds T p S (i+1)=V2:=by rw [HV2.out,HAX.out.1,HAX.out.2,HVV.out];rfl
          refine ⟨⟨i+1,by have:=HI64.out;omega,by go_num,by rw [hr];exact ⟨hN2⟩⟩,by have:=HI64.out;simp only [intOf];omega⟩
         ·have HI16:=z_ hi16
          have hd2:decide ((i:Int)<16)=false:=by simp;omega
          have pj:0<=(i:Int):=by omega
          have qj:(i:Int)<64:=by omega
          obtain ⟨xs9,hxs9⟩ : ∃xs,xs=rws T p i:=⟨_,rfl⟩
          have hx9l:xs9.length=64:=by rw [hxs9];exact rws_length _ _ _
          rw [<-hxs9] at HN
          have HXS9:=z_ hxs9
          obtain ⟨j2,hj2⟩ : ∃x,x=i-2:=⟨_,rfl⟩
          have d2:=HN.out.h8.cell j2 (by omega)
          obtain ⟨x2,hx2⟩ : ∃x,x=xs9.getD j2 0:=⟨_,rfl⟩
          rw [<-hx2] at d2
          have Hj2:=z_ hj2
          clear hj2
          obtain ⟨j7,hj7⟩ : ∃x,x=i-7:=⟨_,rfl⟩
          have d7:=HN.out.h8.cell j7 (by omega)
          obtain ⟨x7,hx7⟩ : ∃x,x=xs9.getD j7 0:=⟨_,rfl⟩
          rw [<-hx7] at d7
          have Hj7:=z_ hj7
          clear hj7
          obtain ⟨j15,hj15⟩ : ∃x,x=i-15:=⟨_,rfl⟩
          have d15:=HN.out.h8.cell j15 (by omega)
          obtain ⟨x15,hx15⟩ : ∃x,x=xs9.getD j15 0:=⟨_,rfl⟩
          rw [<-hx15] at d15
          have Hj15:=z_ hj15
          clear hj15
          obtain ⟨j16,hj16⟩ : ∃x,x=i-16:=⟨_,rfl⟩
          have d16:=HN.out.h8.cell j16 (by omega)
          obtain ⟨x16,hx16⟩ : ∃x,x=xs9.getD j16 0:=⟨_,rfl⟩
          rw [<-hx16] at d16
          have Hj16:=z_ hj16
          clear hj16
          have HX:=z_ (And.intro hx2 (And.intro hx7 (And.intro hx15 hx16)))
          have hf:=HN.out.h8.frozen i
          have hcj:=HN.out.h8.cell i (by omega)
          obtain ⟨y1,hy1⟩ : ∃y,y=(annalsref01_right.f x15 7).getD 0:=⟨_,rfl⟩
          obtain ⟨y2,hy2⟩ : ∃y,y=(annalsref01_right.f x15 18).getD 0:=⟨_,rfl⟩
          obtain ⟨y3,hy3⟩ : ∃y,y=(annalsref01_right.f x2 17).getD 0:=⟨_,rfl⟩
          obtain ⟨y4,hy4⟩ : ∃y,y=(annalsref01_right.f x2 19).getD 0:=⟨_,rfl⟩
          have G1:=z_ (right_some x15 7 (by omega) (by omega))
          have G2:=z_ (right_some x15 18 (by omega) (by omega))
          have G3:=z_ (right_some x2 17 (by omega) (by omega))
          have G4:=z_ (right_some x2 19 (by omega) (by omega))
          rw [<-hy1] at G1
          rw [<-hy2] at G2
          rw [<-hy3] at G3
          rw [<-hy4] at G4
          have HY:=z_ (And.intro hy1 (And.intro hy2 (And.intro hy3 hy4)))
          clear hxs9 hx9l hx2 hx7 hx15 hx16 hy1 hy2 hy3 hy4 hwl hTl hpm hi64 hi16 hi
          go_wp2_with fail
          have w2:IntKind.i64.wrap (j2:Int)=(j2:Int):=by have:=Hj2.out;exact IntWalk.i64_in _ ⟨by omega,by omega⟩
          have q2:(j2:Int)<64:=by have:=Hj2.out;omega
          have p2:0<=(j2:Int):=by omega
          have e2:(i:Int)-2=(j2:Int):=by have:=Hj2.out;have:=HI16.out;omega
          have w7:IntKind.i64.wrap (j7:Int)=(j7:Int):=by have:=Hj7.out;exact IntWalk.i64_in _ ⟨by omega,by omega⟩
          have q7:(j7:Int)<64:=by have:=Hj7.out;omega
          have p7:0<=(j7:Int):=by omega
          have e7:(i:Int)-7=(j7:Int):=by have:=Hj7.out;have:=HI16.out;omega
          have w15:IntKind.i64.wrap (j15:Int)=(j15:Int):=by have:=Hj15.out;exact IntWalk.i64_in _ ⟨by omega,by omega⟩
          have q15:(j15:Int)<64:=by have:=Hj15.out;omega
          have p15:0<=(j15:Int):=by omega
          have e15:(i:Int)-15=(j15:Int):=by have:=Hj15.out;have:=HI16.out;omega
          have w16:IntKind.i64.wrap (j16:Int)=(j16:Int):=by have:=Hj16.out;exact IntWalk.i64_in _ ⟨by omega,by omega⟩
          have q16:(j16:Int)<64:=by have:=Hj16.out;omega
          have p16:0<=(j16:Int):=by omega
          have e16:(i:Int)-16=(j16:Int):=by have:=Hj16.out;have:=HI16.out;omega
          go_quiet (fail)
          go_wp2_with fail
          replace HN:=z_ (HN.out.drewN nq)
          obtain ⟨W5,hW5⟩ : ∃W5,W5=wr.drewN nq:=⟨_,rfl⟩
          rw [<-hW5] at HN
          rw [<-hW5]
          clear hW5 d2 d7 d15 d16 hf hcj
          have d7:=HN.out.h8.cell j7 (by have:=HXS9.out;have:=Hj7.out;rw [HXS9.out,rws_length];have:=HI64.out;omega)
          have d16:=HN.out.h8.cell j16 (by rw [HXS9.out,rws_length];have:=Hj16.out;have:=HI64.out;omega)
          have hcj:=HN.out.h8.cell i (by rw [HXS9.out,rws_length];exact HI64.out)
          have hf:=HN.out.h8.frozen i
          rw [<-HX.out.2.1] at d7
          rw [<-HX.out.2.2.2] at d16
          go_region_held3 (fun w'=>w'.cell? ⟨g8,j7,none⟩=some (.int .u32 x7)/\w'.cell? ⟨g8,j16,none⟩=some (.int .u32 x16)) (first|go_keep|exact ⟨cell_set_ne (by have:=Hj7.out;omega) _ d7,cell_set_ne (by have:=Hj16.out;omega) _ d16⟩) (first|(go_at_call 93;((with_reducible refine (annalsref01_right.calls x15 7 y1 _ G1.out).mono ?_);rintro e w' ⟨rfl,⟨m1,rfl⟩⟩))|(go_at_call 93;((with_reducible refine (annalsref01_right.calls x15 18 y2 _ G2.out).mono ?_);rintro e w' ⟨rfl,⟨m2,rfl⟩⟩))|(go_at_call 93;((with_reducible refine (annalsref01_right.calls x2 17 y3 _ G3.out).mono ?_);rintro e w' ⟨rfl,⟨m3,rfl⟩⟩))|(go_at_call 93;((with_reducible refine (annalsref01_right.calls x2 19 y4 _ G4.out).mono ?_);rintro e w' ⟨rfl,⟨m4,rfl⟩⟩)))
          go_wp2_with fail
          obtain ⟨x,hx⟩ : ∃x,x=IntKind.u32.wrap (IntKind.u32.wrap (IntKind.u32.wrap (x16+Go.bits .xor .u32 (Go.bits .xor .u32 y1 y2) (x15/8))+x7)+Go.bits .xor .u32 (Go.bits .xor .u32 y3 y4) (x2/1024)):=⟨_,rfl⟩
          rw [<-hx]
          have hxn:x=rnext xs9 i:=by
           have hX:=HX.out
           have hY:=HY.out
           unfold rnext
           rw [<-Hj15.out,<-Hj2.out,<-Hj16.out,<-Hj7.out,<-hX.1,<-hX.2.1,<-hX.2.2.1,<-hX.2.2.2]
           simp only []
           rw [<-hY.1,<-hY.2.1,<-hY.2.2.1,<-hY.2.2.2,hx]
           simp only [IntKind.wrap_u32]
           omega
          have he:rws T p (i+1)=xs9.set i x:=by
           rw [hxn,HXS9.out]
           simp only [rws]
           rw [if_neg HI16.out]
          obtain ⟨V,hV⟩ : ∃a,a=rrounds T p S i:=⟨_,rfl⟩
          have HVV:=z_ hV
          rw [<-hV] at HN
          replace HN:Aside0 (RefMem2 w ((W5.drewN (1+m1+m2+m3+m4)).setCell ⟨g8,i,none⟩ (.int .u32 x)) g3 g4 g8 g9 S.list (rws T p (i+1)) V (.slice A5 T.length c5) T):=⟨by rw [he];exact (HN.out.drewN _).set8 i x⟩
          clear hV he hx hxn d7 d16 hcj hf w2 q2 p2 e2 w7 q7 p7 e7 w15 q15 p15 e15 w16 q16 p16 e16
          refine still_tail_at 8 (by kernel_rfl) (by kernel_rfl) (fun W hW=>?_)
          replace HN:Aside0 (RefMem2 w W g3 g4 g8 g9 S.list (rws T p (i+1)) V (.slice A5 T.length c5) T):=⟨by rw [hW];exact HN.out.drew⟩
          clear hW
          obtain ⟨c0,c1,c2,c3,c4,c5',c6,c7⟩:=IsSums.cells HN.out.h9
          obtain ⟨ai,hai⟩ : ∃a,a=shaAdded.getD i 0:=⟨_,rfl⟩
          obtain ⟨xi,hxi⟩ : ∃a,a=(rws T p (i+1)).getD i 0:=⟨_,rfl⟩
          have ca:=HN.out.mem.h4.cell i (by have:=HI64.out;show i<64;omega)
          have cx:=HN.out.h8.cell i (by rw [rws_length];exact HI64.out)
          rw [<-hai] at ca
          rw [<-hxi] at cx
          have HAX:=z_ (And.intro hai hxi)
          clear hai hxi
          simp only [List.take_succ_cons,List.take_zero,List.drop_succ_cons,List.drop_zero]
          repeat still_step
          refine wpStill_nil ?_
          go_wp2_with fail
          refine (round_calls2 V ((ai+xi)%4294967296) _).mono ?_
          rintro e3 w3 ⟨rfl,hB3⟩
          replace HN:Aside0 (RefMem2 w w3 g3 g4 g8 g9 S.list (rws T p (i+1)) V (.slice A5 T.length c5) T):=⟨HN.out.below hB3⟩
          clear hB3 c0 c1 c2 c3 c4 c5' c6 c7 ca cx
          obtain ⟨V2,hV2⟩ : ∃a,a=V.rround ((ai+xi)%4294967296):=⟨_,rfl⟩
          rw [<-hV2]
          have HV2:=z_ hV2
          clear hV2
          obtain ⟨c0,c1,c2,c3,c4,c5',c6,c7⟩:=IsSums.cells HN.out.h9
          have f0:=HN.out.h9.frozen 0
          have f1:=HN.out.h9.frozen 1
          have f2:=HN.out.h9.frozen 2
          have f3:=HN.out.h9.frozen 3
          have f4:=HN.out.h9.frozen 4
          have f5:=HN.out.h9.frozen 5
          have f6:=HN.out.h9.frozen 6
          have f7:=HN.out.h9.frozen 7
          go_wp2_with fail
          have hN2:=HN.out.put9 V2
          have hr:rrounds T p S (i+1)=V2:=by rw [HV2.out,HAX.out.1,HAX.out.2,HVV.out];rfl
          refine ⟨⟨i+1,by have:=HI64.out;omega,by go_num,by rw [hr];exact ⟨hN2⟩⟩,by have:=HI64.out;simp only [intOf];omega⟩
        ·have hd:decide ((i:Int)<64)=false:=by simp;omega
         have hie:i=64:=by omega
         clear hi hi64
         obtain ⟨V,hV⟩ : ∃a,a=rrounds T p S i:=⟨_,rfl⟩
         rw [<-hV] at HN
         rw [hie] at hV
         have HVV:=z_ hV
         obtain ⟨WS,hWS⟩ : ∃a,a=rws T p i:=⟨_,rfl⟩
         rw [<-hWS] at HN
         clear hV hWS hie
         go_wp2_with fail
         clear hd
         go_loopw [117] (fun v117 wq=>∃k:Nat,k<=8/\v117 = .int .i64 (k:Int)/\Aside0 (RefMem2 w wq g3 g4 g8 g9 (addW S.list V.list k) WS V (.slice A5 T.length c5) T)) (fun v117 _=>8-(intOf v117).toNat)
         case atStart=>exact ⟨0,by omega,rfl,HN⟩
         case round=>
          clear HN
          obtain ⟨k,hk,rfl,HN⟩:=hrel
          by_cases hk8:k<8
          ·have hd:decide ((k:Int)<8)=true:=by simp;omega
           have HK8:=z_ hk8
           have pk:0<=(k:Int):=by omega
           have qk:(k:Int)<8:=by omega
           clear hk hk8
           go_wp2_with fail
           refine still_tail_at 8 (by kernel_rfl) (by kernel_rfl) (fun W hW=>?_)
           replace HN:Aside0 (RefMem2 w W g3 g4 g8 g9 (addW S.list V.list k) WS V (.slice A5 T.length c5) T):=⟨by rw [hW];exact HN.out.drew⟩
           clear hW
           obtain ⟨x,hx⟩ : ∃x,x=(addW S.list V.list k).getD k 0:=⟨_,rfl⟩
           obtain ⟨y,hy⟩ : ∃y,y=V.list.getD k 0:=⟨_,rfl⟩
           have cx:=HN.out.mem.h3.cell k (by rw [addW_length];exact HK8.out)
           have cy:=HN.out.h9.cell k (by exact HK8.out)
           have fx:=HN.out.mem.h3.frozen k
           rw [<-hx] at cx
           rw [<-hy] at cy
           have HXY:=z_ (And.intro hx hy)
           clear hx hy
           simp only [List.take_succ_cons,List.take_zero,List.drop_succ_cons,List.drop_zero]
           repeat still_step
           refine wpStill_nil ?_
           go_wp2_with fail
           go_roundw
           case measure=>simp [intOf];have:=HK8.out;omega
           case rel=>
            refine ⟨k+1,by have:=HK8.out;omega,by go_num,⟨?_⟩⟩
            simp only [addW]
            rw [<-HXY.out.1,<-HXY.out.2]
            exact HN.out.set3 k _
          ·have hd:decide ((k:Int)<8)=false:=by simp;omega
           obtain rfl:k=8:=by omega
           clear hk hk8
           have hsum:(rsums T (m+1)).list=addW S.list V.list 8:=by
            simp only [rsums]
            rw [Sums.of_list _ (by rw [addW_length];rfl),<-HS.out,<-HP.out,<-HVV.out]
           have HSUM:=z_ hsum
           clear hsum
           go_wp2_with fail
           have hlt:=HLT.out
           have hpm:=HP.out
           go_roundw
           case measure=>simp only [intOf];omega
           case rel=>exact ⟨m+1,p+64,by omega,⟨by omega⟩,by go_num,by rw [HSUM.out];exact ⟨HN.out.mem⟩,⟨HN.out.txt⟩⟩
      ·have hd:decide (p<T.length)=false:=by have:=HTL.out;have:=HP.out;simp;omega
       have hmb:m=rblocks bs.length:=by omega
       obtain ⟨S,hS⟩ : ∃x,x=rsums T m:=⟨_,rfl⟩
       rw [<-hS] at HM
       rw [hmb,HT.out] at hS
       have HS:=z_ hS
       obtain ⟨c0,c1,c2,c3,c4,c5',c6,c7⟩:=IsSums.cells HM.out.h3
       clear hS hlt hm hmb
       go_wp2_with fail
       clear c0 c1 c2 c3 c4 c5' c6 c7 hd
       go_loopw [14,130] (fun v14 v130 wq=>∃k:Nat,k<=8/\v130 = .int .i64 (k:Int)/\Aside0 (Kd.R (Kd.int .u8) 5 wq w.heap.size (fun _=>True) v14 (rout S.list k))/\Aside0 (Below w.heap.size w wq)) (fun _ v130 _=>8-(intOf v130).toNat)
       case atStart=>exact ⟨0,by omega,rfl,⟨Kd.R_nil _ _ _ _ _⟩,⟨HM.out.bel⟩⟩
       case round=>
        clear HM HO
        obtain ⟨k,hk,rfl,HO,HB⟩:=hrel
        obtain ⟨A6,c6,rfl⟩:=Kd.R_slice HO.out
        obtain ⟨ys,hys⟩ : ∃ys,ys=rout S.list k:=⟨_,rfl⟩
        have hyl:ys.length=4*k:=by rw [hys];exact rout_length _ _
        rw [<-hys] at HO
        rw [<-hys]
        have HYS:=z_ hys
        have HYL:=z_ hyl
        clear hys hyl
        by_cases hk8:k<8
        ·have hd:decide ((k:Int)<8)=true:=by simp;omega
         have HK8:=z_ hk8
         have qk:(k:Int)<8:=by omega
         have hix:=words8_index S k hk8
         obtain ⟨x,hx⟩ : ∃x,x=S.list.getD k 0:=⟨_,rfl⟩
         rw [<-hx] at hix
         have HX:=z_ hx
         clear hx hk hk8
         go_wp2_with (first|((with_reducible refine gate_builtin (b:=.append) (xs:=#[.tmp 133,.tmp 145]) rfl ?_);go_must (at_builtin;refine Kd.R_append_rows (Kd.int .u8) (w0:=w) w.heap.size rfl (.tmp 133) (.tmp 145) 23 5 (.int .u8 0) 1 rfl Tryz.underlying23 info5 rfl (by decide) (by omega) (.slice A6 ys.length c6) ys [x/16777216%256,x/65536%256,x/256%256,x%256] (some ⟨wr.heap.size,0,none⟩) 4 4 (fun _=>True) (fun _=>False) rfl rfl ?aO ?aR (fun _ _ h=>h) (fun _ h=>h.elim) ?aF ?aB ?aS ?aL ?_;(case aR=>exact IsBytes.C (xs:=[x/16777216%256,x/65536%256,x/256%256,x%256]) (o:=0) (n:=4) (heap_alloc_new wr _) (by simp) (by decide));(case aB=>exact below_alloc HB.out _);(case aF=>exact (fun _ _=>trivial));(case aO=>exact Kd.R_alloc HO.out _);(case aS=>have:=HB.out.size;simp;omega);(case aL=>have:=HYL.out;have:=HK8.out;omega);intro v3 w3 ho hb3 hg hat;have HO3:=z_ ho;have HB3:=z_ hb3;clear ho hb3 hg hat)))
         have hk8:=HK8.out
         have he:ys++[x/16777216%256,x/65536%256,x/256%256,x%256]=rout S.list (k+1):=by
          simp only [rout]
          rw [<-HYS.out,<-HX.out]
         rw [he] at HO3
         go_roundw
         case measure=>simp [intOf];omega
         case rel=>exact ⟨k+1,by omega,by go_num,HO3,HB3⟩
        ·have hd:decide ((k:Int)<8)=false:=by simp;omega
         obtain rfl:k=8:=by omega
         go_wp2_with fail
         go_ret
         have hfin:ys=refSum bs:=by rw [HYS.out,HS.out];rfl
         rw [<-hfin]
         exact ⟨_,rfl,HO.out,HB.out⟩
def annalsref01_Sum.f (l0:List Int):Option (List Int):=if l0.length<=140737488355000 then some (refSum l0) else none
theorem annalsref01_Sum.calls (A0:Option Addr) (c0:Nat) (l0:List Int) (r:List Int) (w:World) (hr0:Kd.C (Kd.int .u8) w A0 l0.length l0) (hc0:l0.length<=c0) (h:annalsref01_Sum.f l0=some r):
 Calls Tryz.prog 86 #[.slice A0 l0.length c0] w fun e w'=>∃v0_:Value,e = .returned (v0_)/\Kd.R (Kd.int .u8) 5 w' w.heap.size (fun _=>True) v0_ r/\Below w.heap.size w w':=by
 unfold annalsref01_Sum.f at h
 split at h
 case isFalse=>cases h
 case isTrue hb=>
  obtain rfl:=Option.some.inj h
  exact rsum_any A0 c0 l0 w hr0 hc0 hb
end Go.Proofs.YtdeneoknjeegbaaGreatDoor.P
end
