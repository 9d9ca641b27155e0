/- Lemmas of this claim, part 5. -/
import Derived.Test.YtdeneoknjeegbaaDoorPartPtreeOrder2
import Derived.Test.YtdeneoknjeegbaaDoorPartPtreeOrder3
import Derived.Test.YtdeneoknjeegbaaDoorPartPtreeOrder4
import Derived.Outline
import Derived.Lib.SlBytesConst
set_option linter.unusedVariables false
set_option linter.unusedSimpArgs false
section
namespace Go.Proofs.YtdeneoknjeegbaaDoor.P
open Go.RowKit YtdeneoknjeegbaaDoorW.PrintWords YtdeneoknjeegbaaDoorW.PrintLast YtdeneoknjeegbaaDoorW.PrintMore
attribute [local go_sem] max2_int min2_int max_two min_two max_three min_three max_four min_four
def arena_LeafHash.f (k:Nat) (a0:Int) (l1:List Int) (l2:List Int) (a3:Int):Option (List Int):=(texts_Number.f a3).bind fun t127=>((texts_Hash.f k a0 1 (([l1,l2,t127]:List (List Int)))).bind fun t133=>(some t133))
theorem arena_LeafHash.mono : ∀a0 a1 a2 a3 k,LeO (arena_LeafHash.f k a0 a1 a2 a3) (arena_LeafHash.f (k+1) a0 a1 a2 a3):=by
 intro a0 a1 a2 a3 k
 unfold arena_LeafHash.f
 repeat' first
  | (with_reducible exact texts_Hash.mono _ _ _ _)
  | (with_reducible exact LeO.refl _)
  | (with_reducible exact LeO.none _)
  | (with_reducible refine LeO.ite ?_ ?_)
  | (with_reducible refine LeO.bind ?_ (fun _=>?_))
  | exact texts_Hash.mono _ _ _ _
  | exact LeO.none _
  | refine LeO.ite ?_ ?_
  | refine LeO.bind ?_ (fun _=>?_)
set_option maxHeartbeats 8000000 in
set_option maxRecDepth 100000 in
theorem arena_LeafHash.calls (k:Nat) (a0:Int) (P1_:Nat->Prop) (A1:Option Addr) (c1:Nat) (l1:List Int) (P2_:Nat->Prop) (A2:Option Addr) (c2:Nat) (l2:List Int) (a3:Int) (r:List Int) (w:World) (hs1:Kd.V (Kd.int .u8) 5 w w.heap.size (fun k_=>P1_ k_) (.slice A1 l1.length c1) l1) (hs2:Kd.V (Kd.int .u8) 5 w w.heap.size (fun k_=>P2_ k_) (.slice A2 l2.length c2) l2) (hGS:GlobS w) (h:arena_LeafHash.f k a0 l1 l2 a3=some r):
 Calls Tryd.prog 73 #[.int .i64 a0,.slice A1 l1.length c1,.slice A2 l2.length c2,.int .i64 a3] w fun e w'=>∃v0_:Value,e = .returned (v0_)/\Kd.V (Kd.int .u8) 5 w' w.heap.size (fun k_=>((P1_ k_\/P2_ k_)\/w.heap.size<=k_)) v0_ r/\Below w.heap.size w w':=by
 have HGS:=z_ hGS
 clear hGS
 have HO1:=z_ (show Kd.V (Kd.int .u8) 5 w w.heap.size (fun k_=>((P1_ k_\/P2_ k_)\/w.heap.size<=k_)) (.slice A1 l1.length c1) l1 from Kd.V_mono hs1 (fun k_ hk=>.inl (.inl hk)))
 have HO2:=z_ (show Kd.V (Kd.int .u8) 5 w w.heap.size (fun k_=>((P1_ k_\/P2_ k_)\/w.heap.size<=k_)) (.slice A2 l2.length c2) l2 from Kd.V_mono hs2 (fun k_ hk=>.inl (.inr hk)))
 have HB:=z_ (Below.refl w.heap.size w)
 have H:((texts_Number.f a3).bind fun t127=>((texts_Hash.f k a0 1 (([l1,l2,t127]:List (List Int)))).bind fun t133=>(some t133)))=some r:=h
 clear h
 replace H:=Option.bind_eq_some_iff.mp H
 obtain ⟨t127,A50,H⟩:=H
 replace H:((texts_Hash.f k a0 1 (([l1,l2,t127]:List (List Int)))).bind fun t133=>(some t133))=some r:=H
 have A5:=z_ A50
 clear A50
 obtain ⟨y130,hy130⟩ : ∃y_:List (List Int),y_=(([l1,l2,t127]:List (List Int))):=⟨_,rfl⟩
 replace H:((texts_Hash.f k a0 1 y130).bind fun t133=>(some t133))=some r:=by first|(rw [hy130];with_reducible exact H)|(have H2_:=(Option.bind_some _ _).symm.trans H;rw [hy130];with_reducible exact H2_)|(have H2_:=(Option.bind_some _ _).symm.trans H;with_reducible exact H2_)|with_reducible exact H|(rw [hy130];exact H)|exact H
 have Ny130:=z_ hy130
 clear hy130
 replace H:=Option.bind_eq_some_iff.mp H
 obtain ⟨t133,A60,H⟩:=H
 replace H:(some t133)=some r:=H
 have A6:=z_ A60
 clear A60
 obtain rfl:=Option.some.inj H
 go_enter Tryd.func73,Tryd.ntmps73
 go_wp2_with (first|((with_reducible refine gate_callee (f:=94) rfl ?_);refine goesL_ (some 13) rfl rfl Tryd.func94 (by kernel_rfl) rfl #[.int .i64 a3] rfl (by (try simp only [List.map_toArray,List.map_cons,List.map_nil]);first|done|rfl|(simp only [List.length_drop,List.length_take];rfl)) ?_;(with_reducible refine (texts_Number.calls a3 t127 _ A5.out).mono ?_);rintro e w7 ⟨v128,rfl,ho0,hb⟩;refine ⟨_,rfl,?_⟩;have n0_:=z_ (Kd.V_below (by (with_reducible repeat (first|apply Kd.V_alloc|apply Kd.V_drewN|apply Kd.V_drew));exact HO1.out) hb);have n1_:=z_ (Kd.V_below (by (with_reducible repeat (first|apply Kd.V_alloc|apply Kd.V_drewN|apply Kd.V_drew));exact HO2.out) hb);have n2_:=z_ (Kd.V_lower (Kd.V_mono (ok':=fun k_=>((P1_ k_\/P2_ k_)\/w.heap.size<=k_)) ho0 (fun k_ hk_=>(.inr (Nat.le_trans (below_size (by repeat (first|(with_reducible first|exact HB.out|apply below_alloc|apply pw_below_drewN|apply below_drew1)|exact HB.out))) hk_)))) (below_size (by repeat (first|(with_reducible first|exact HB.out|apply below_alloc|apply pw_below_drewN|apply below_drew1)|exact HB.out))));have n3_:=z_ (below_step (by repeat (first|(with_reducible first|exact HB.out|apply below_alloc|apply pw_below_drewN|apply below_drew1)|exact HB.out)) hb);clear HO1;clear HO2;clear HB;have HO1:=n0_;have HO2:=n1_;have HO129:=n2_;have HB:=n3_;clear n0_ n1_ n2_ n3_;(try clear hb);(try clear hb2);(try clear hk);(try clear hi);(try clear ho0);obtain ⟨Ao8,co8,eo8⟩:=Kd.V_slice HO129.out;subst eo8)|((with_reducible refine gate_dst (N:=14) rfl ?_);refine Kd.N_lit (Kd.slice 5 (Kd.int .u8)) _ 31 ?hg (N':=14) ?hd (xs:=([l1,l2,t127]:List (List Int))) (inner:=[.slice A1 l1.length c1,.slice A2 l2.length c2,.slice Ao8 t127.length co8]) (ok:=(fun k_=>((P1_ k_\/P2_ k_)\/w.heap.size<=k_))) (okp:=(fun k_=>((P1_ k_\/P2_ k_)\/w.heap.size<=k_))) ?hr ?hp (fun _ hk=>hk) ((show ∀k_,w7.heap.size<=k_->(fun k_=>((P1_ k_\/P2_ k_)\/w.heap.size<=k_)) k_ from fun k_ hk=>(.inr (Nat.le_trans (below_size (by repeat (first|(with_reducible first|exact HB.out|apply below_alloc|apply pw_below_drewN|apply below_drew1)|exact HB.out))) hk))) _ (Nat.le_refl _)) (Below.refl _ _) (Nat.le_refl _) (by simp) ?_;(case hd=>rfl);(case hg=>rfl);(case hr=>first|(go_simp;done)|(go_simp;rfl));(case hp=>exact (Reps.one (show Kd.FK (Kd.slice 5 (Kd.int .u8)) _ _ l1 [.slice A1 l1.length c1] from (Kd.FK_slice_mk (Kd.V_reads' (Kd.V_mono (ok':=(fun k_=>((P1_ k_\/P2_ k_)\/w.heap.size<=k_))) (HO1.out) (fun k_ hk=>hk))).2.1 (Kd.V_F (Kd.V_mono (ok':=(fun k_=>((P1_ k_\/P2_ k_)\/w.heap.size<=k_))) (HO1.out) (fun k_ hk=>hk))))) (Reps.one (show Kd.FK (Kd.slice 5 (Kd.int .u8)) _ _ l2 [.slice A2 l2.length c2] from (Kd.FK_slice_mk (Kd.V_reads' (Kd.V_mono (ok':=(fun k_=>((P1_ k_\/P2_ k_)\/w.heap.size<=k_))) (HO2.out) (fun k_ hk=>hk))).2.1 (Kd.V_F (Kd.V_mono (ok':=(fun k_=>((P1_ k_\/P2_ k_)\/w.heap.size<=k_))) (HO2.out) (fun k_ hk=>hk))))) (Reps.one (show Kd.FK (Kd.slice 5 (Kd.int .u8)) _ _ t127 [.slice Ao8 t127.length co8] from (Kd.FK_slice_mk (Kd.V_reads' (Kd.V_mono (ok':=(fun k_=>((P1_ k_\/P2_ k_)\/w.heap.size<=k_))) (HO129.out) (fun k_ hk=>hk))).2.1 (Kd.V_F (Kd.V_mono (ok':=(fun k_=>((P1_ k_\/P2_ k_)\/w.heap.size<=k_))) (HO129.out) (fun k_ hk=>hk))))) (Reps.none _ _)))));intro v131 w9 ho10 hb hg_ hnew_;clear hg_ hnew_;(first|rw [<-Ny130.out] at ho10|(simp only [Int.reduceToNat] at ho10;rw [<-Ny130.out] at ho10));have n0_:=z_ (Kd.V_elder' (by (with_reducible repeat (first|apply Kd.V_alloc|apply Kd.V_drewN|apply Kd.V_drew));exact HO1.out) (Kd.N_base ho10) hb);have n1_:=z_ (Kd.V_elder' (by (with_reducible repeat (first|apply Kd.V_alloc|apply Kd.V_drewN|apply Kd.V_drew));exact HO2.out) (Kd.N_base ho10) hb);have n2_:=z_ (Kd.V_elder' (by (with_reducible repeat (first|apply Kd.V_alloc|apply Kd.V_drewN|apply Kd.V_drew));exact HO129.out) (Kd.N_base ho10) hb);have n3_:=z_ (Kd.N_lower ho10 (below_size (by repeat (first|(with_reducible first|exact HB.out|apply below_alloc|apply pw_below_drewN|apply below_drew1)|exact HB.out))));have n4_:=z_ (below_step (by repeat (first|(with_reducible first|exact HB.out|apply below_alloc|apply pw_below_drewN|apply below_drew1)|exact HB.out)) hb);clear HO1;clear HO2;clear HO129;clear HB;have HO1:=n0_;have HO2:=n1_;have HO129:=n2_;have HO132:=n3_;have HB:=n4_;clear n0_ n1_ n2_ n3_ n4_;clear hb ho10;obtain ⟨Ao11,co11,eo11⟩:=Kd.N_slice HO132.out;subst eo11)|((with_reducible refine gate_callee (f:=70) rfl ?_);refine goesL_ (some 15) rfl rfl Tryd.func70 (by kernel_rfl) rfl #[.int .i64 a0,.int .i64 1,.slice Ao11 y130.length co11] rfl (by (try simp only [List.map_toArray,List.map_cons,List.map_nil]);first|done|rfl|(simp only [List.length_drop,List.length_take];rfl)) ?_;(with_reducible refine (texts_Hash.calls k a0 1 _ _ y130 t133 _ ?side1 ?side2 (by first|(with_reducible exact HGS.out)|exact GlobS.of HGS.out (by repeat (first|(with_reducible first|exact HB.out|apply below_alloc|apply pw_below_drewN|apply below_drew1)|exact HB.out))|exact GlobS.of HGS.out (by repeat (first|exact Below.refl _ _|apply below_alloc|apply pw_below_drewN|apply below_drew1))) A6.out).mono ?_);(case side1=>repeat (first|exact (Kd.N_reads' HO132.out).2.2|(with_reducible refine Kd.C_alloc ?_ _)|(with_reducible refine Kd.C_drewN ?_ _)|(with_reducible refine Kd.C_drew ?_)));(case side2=>exact (Kd.N_reads' HO132.out).2.1);rintro e w12 ⟨v134,rfl,ho0,hb⟩;refine ⟨_,rfl,?_⟩;have n0_:=z_ (Kd.V_below (by (with_reducible repeat (first|apply Kd.V_alloc|apply Kd.V_drewN|apply Kd.V_drew));exact HO1.out) hb);have n1_:=z_ (Kd.V_below (by (with_reducible repeat (first|apply Kd.V_alloc|apply Kd.V_drewN|apply Kd.V_drew));exact HO2.out) hb);have n2_:=z_ (Kd.V_below (by (with_reducible repeat (first|apply Kd.V_alloc|apply Kd.V_drewN|apply Kd.V_drew));exact HO129.out) hb);have n3_:=z_ (Kd.N_below (by (with_reducible repeat (first|apply Kd.N_alloc|apply Kd.N_drewN|apply Kd.N_drew));exact HO132.out) hb);have n4_:=z_ (Kd.V_lower (Kd.V_mono (ok':=fun k_=>((P1_ k_\/P2_ k_)\/w.heap.size<=k_)/\some k_≠(.slice Ao11 y130.length co11:Value).ownBlock) ho0 (fun k_ hk_=>⟨(.inr (Nat.le_trans (below_size (by repeat (first|(with_reducible first|exact HB.out|apply below_alloc|apply pw_below_drewN|apply below_drew1)|exact HB.out))) hk_)),(Kd.fresh' (Kd.N_lt (by (with_reducible repeat (first|apply Kd.N_alloc|apply Kd.N_drewN|apply Kd.N_drew));exact HO132.out)) k_ hk_)⟩)) (below_size (by repeat (first|(with_reducible first|exact HB.out|apply below_alloc|apply pw_below_drewN|apply below_drew1)|exact HB.out))));have n5_:=z_ (below_step (by repeat (first|(with_reducible first|exact HB.out|apply below_alloc|apply pw_below_drewN|apply below_drew1)|exact HB.out)) hb);clear HO1;clear HO2;clear HO129;clear HO132;clear HB;have HO1:=n0_;have HO2:=n1_;have HO129:=n2_;have HO132:=n3_;have HO135:=n4_;have HB:=n5_;clear n0_ n1_ n2_ n3_ n4_ n5_;(try clear hb);(try clear hb2);(try clear hk);(try clear hi);(try clear ho0)))
 go_ret
 exact ⟨_,by first|rfl|(simp [errW_none,errW_some]<;>rfl)|(simp [*,errW_none,errW_some]<;>rfl),by (with_reducible repeat (first|apply Kd.V_alloc|apply Kd.V_drewN|apply Kd.V_drew));exact Kd.V_mono HO135.out (fun _ hk=>hk.1),by repeat (first|(with_reducible first|exact HB.out|apply below_alloc|apply pw_below_drewN|apply below_drew1)|exact HB.out)⟩
end Go.Proofs.YtdeneoknjeegbaaDoor.P
end
section
namespace Go.Proofs.YtdeneoknjeegbaaDoor.P
open Go.RowKit YtdeneoknjeegbaaDoorW.PrintWords YtdeneoknjeegbaaDoorW.PrintLast YtdeneoknjeegbaaDoorW.PrintMore
abbrev BytesV (w:World) (ok:Nat->Prop) (v:Value) (l:List Int):Prop:=Kd.V (Kd.int .u8) 5 w w.heap.size ok v l
attribute [local go_sem] max2_int min2_int max_two min_two
end Go.Proofs.YtdeneoknjeegbaaDoor.P
end
section
namespace Go.Proofs.YtdeneoknjeegbaaDoor.P
open Go.RowKit YtdeneoknjeegbaaDoorW.PrintWords YtdeneoknjeegbaaDoorW.PrintLast YtdeneoknjeegbaaDoorW.PrintMore
theorem at_raw {w:World} {p:Nat} {size room:Int} {g n c:Nat} {vf:Value} (h:ABlk w p size room (.slice (some ⟨g,0,none⟩) n c) vf) (hs:size≠0) (hn:n<=9223372036854775807) (k:Nat) (hk:k<n) (hc:w.cell? ⟨g,k*11,none⟩=some (.bool true)):
 Calls Tryd.prog 51 #[.pointer (some ⟨p,0,none⟩),.int .i64 (k:Int)] w fun e w'=>e = .returned (.pointer (some ⟨g,k*11+1,none⟩))/\w=w':=by
 have HBk:=z_ h
 have HS:=z_ hs
 have hk2:decide (n<=k)=false:=decide_eq_false (by omega)
 have hk3:(k:Int)<(n:Int):=by omega
 have hk4:decide ((k:Int)<0)=false:=decide_eq_false (by omega)
 have hk5:0<=(k:Int):=by omega
 clear h hs
 go_enter Tryd.func51,Tryd.ntmps51
 go_wp2_with fail
 refine (none_calls HBk.out HS.out).mono ?_
 rintro e w' ⟨rfl,rfl⟩
 obtain ⟨c0,c1,c2,c3⟩:=HBk.out.cells
 go_wp2_with fail
 go_ret
 exact ⟨rfl,rfl⟩
def annalslaw09_awake.f:Option Bool:=some true
end Go.Proofs.YtdeneoknjeegbaaDoor.P
end
section
namespace Go.Proofs.YtdeneoknjeegbaaDoor.P
open Go.RowKit YtdeneoknjeegbaaDoorW.PrintWords YtdeneoknjeegbaaDoorW.PrintLast YtdeneoknjeegbaaDoorW.PrintMore
attribute [local go_sem] max2_int min2_int max_two min_two max_three min_three max_four min_four
def arena_ForkHash.f (k:Nat) (a0:Int) (a1:Int) (l2:List Int) (a3:Int) (l4:List Int) (l5:List Int):Option (List Int):=(texts_Number.f a1).bind fun t212=>((bits_First.f l2 a1).bind fun t215=>((texts_Number.f a3).bind fun t218=>((texts_Hash.f k a0 2 (([t212,t215,t218,l4,l5]:List (List Int)))).bind fun t224=>(some t224))))
theorem arena_ForkHash.mono : ∀a0 a1 a2 a3 a4 a5 k,LeO (arena_ForkHash.f k a0 a1 a2 a3 a4 a5) (arena_ForkHash.f (k+1) a0 a1 a2 a3 a4 a5):=by
 intro a0 a1 a2 a3 a4 a5 k
 unfold arena_ForkHash.f
 repeat' first
  | (with_reducible exact texts_Hash.mono _ _ _ _)
  | (with_reducible exact LeO.refl _)
  | (with_reducible exact LeO.none _)
  | (with_reducible refine LeO.ite ?_ ?_)
  | (with_reducible refine LeO.bind ?_ (fun _=>?_))
  | exact texts_Hash.mono _ _ _ _
  | exact LeO.none _
  | refine LeO.ite ?_ ?_
  | refine LeO.bind ?_ (fun _=>?_)
set_option maxHeartbeats 8000000 in
set_option maxRecDepth 100000 in
theorem arena_ForkHash.calls (k:Nat) (a0:Int) (a1:Int) (A2:Option Addr) (c2:Nat) (l2:List Int) (a3:Int) (P4_:Nat->Prop) (A4:Option Addr) (c4:Nat) (l4:List Int) (P5_:Nat->Prop) (A5:Option Addr) (c5:Nat) (l5:List Int) (r:List Int) (w:World) (hr2:Kd.C (Kd.int .u8) w A2 l2.length l2) (hc2:l2.length<=c2) (hs4:Kd.V (Kd.int .u8) 5 w w.heap.size (fun k_=>P4_ k_) (.slice A4 l4.length c4) l4) (hs5:Kd.V (Kd.int .u8) 5 w w.heap.size (fun k_=>P5_ k_) (.slice A5 l5.length c5) l5) (hGS:GlobS w) (h:arena_ForkHash.f k a0 a1 l2 a3 l4 l5=some r):
 Calls Tryd.prog 78 #[.int .i64 a0,.int .i64 a1,.slice A2 l2.length c2,.int .i64 a3,.slice A4 l4.length c4,.slice A5 l5.length c5] w fun e w'=>∃v0_:Value,e = .returned (v0_)/\Kd.V (Kd.int .u8) 5 w' w.heap.size (fun k_=>((P4_ k_\/P5_ k_)\/w.heap.size<=k_)) v0_ r/\Below w.heap.size w w':=by
 have HGS:=z_ hGS
 clear hGS
 have HR2:=z_ hr2
 have HC2:=z_ hc2
 clear hr2 hc2
 have HO4:=z_ (show Kd.V (Kd.int .u8) 5 w w.heap.size (fun k_=>((P4_ k_\/P5_ k_)\/w.heap.size<=k_)) (.slice A4 l4.length c4) l4 from Kd.V_mono hs4 (fun k_ hk=>.inl (.inl hk)))
 have HO5:=z_ (show Kd.V (Kd.int .u8) 5 w w.heap.size (fun k_=>((P4_ k_\/P5_ k_)\/w.heap.size<=k_)) (.slice A5 l5.length c5) l5 from Kd.V_mono hs5 (fun k_ hk=>.inl (.inr hk)))
 have HB:=z_ (Below.refl w.heap.size w)
 have H:((texts_Number.f a1).bind fun t212=>((bits_First.f l2 a1).bind fun t215=>((texts_Number.f a3).bind fun t218=>((texts_Hash.f k a0 2 (([t212,t215,t218,l4,l5]:List (List Int)))).bind fun t224=>(some t224)))))=some r:=h
 clear h
 replace H:=Option.bind_eq_some_iff.mp H
 obtain ⟨t212,A70,H⟩:=H
 replace H:((bits_First.f l2 a1).bind fun t215=>((texts_Number.f a3).bind fun t218=>((texts_Hash.f k a0 2 (([t212,t215,t218,l4,l5]:List (List Int)))).bind fun t224=>(some t224))))=some r:=H
 have A7:=z_ A70
 clear A70
 replace H:=Option.bind_eq_some_iff.mp H
 obtain ⟨t215,A80,H⟩:=H
 replace H:((texts_Number.f a3).bind fun t218=>((texts_Hash.f k a0 2 (([t212,t215,t218,l4,l5]:List (List Int)))).bind fun t224=>(some t224)))=some r:=H
 have A8:=z_ A80
 clear A80
 replace H:=Option.bind_eq_some_iff.mp H
 obtain ⟨t218,A90,H⟩:=H
 replace H:((texts_Hash.f k a0 2 (([t212,t215,t218,l4,l5]:List (List Int)))).bind fun t224=>(some t224))=some r:=H
 have A9:=z_ A90
 clear A90
 obtain ⟨y221,hy221⟩ : ∃y_:List (List Int),y_=(([t212,t215,t218,l4,l5]:List (List Int))):=⟨_,rfl⟩
 replace H:((texts_Hash.f k a0 2 y221).bind fun t224=>(some t224))=some r:=by first|(rw [hy221];with_reducible exact H)|(have H2_:=(Option.bind_some _ _).symm.trans H;rw [hy221];with_reducible exact H2_)|(have H2_:=(Option.bind_some _ _).symm.trans H;with_reducible exact H2_)|with_reducible exact H|(rw [hy221];exact H)|exact H
 have Ny221:=z_ hy221
 clear hy221
 replace H:=Option.bind_eq_some_iff.mp H
 obtain ⟨t224,A100,H⟩:=H
 replace H:(some t224)=some r:=H
 have A10:=z_ A100
 clear A100
 obtain rfl:=Option.some.inj H
 go_enter Tryd.func78,Tryd.ntmps78
 go_wp2_with (first|((with_reducible refine gate_callee (f:=94) rfl ?_);refine goesL_ (some 15) rfl rfl Tryd.func94 (by kernel_rfl) rfl #[.int .i64 a1] rfl (by (try simp only [List.map_toArray,List.map_cons,List.map_nil]);first|done|rfl|(simp only [List.length_drop,List.length_take];rfl)) ?_;(with_reducible refine (texts_Number.calls a1 t212 _ A7.out).mono ?_);rintro e w11 ⟨v213,rfl,ho0,hb⟩;refine ⟨_,rfl,?_⟩;have n0_:=z_ (Kd.V_below (by (with_reducible repeat (first|apply Kd.V_alloc|apply Kd.V_drewN|apply Kd.V_drew));exact HO4.out) hb);have n1_:=z_ (Kd.V_below (by (with_reducible repeat (first|apply Kd.V_alloc|apply Kd.V_drewN|apply Kd.V_drew));exact HO5.out) hb);have n2_:=z_ (Kd.V_lower (Kd.V_mono (ok':=fun k_=>((P4_ k_\/P5_ k_)\/w.heap.size<=k_)) ho0 (fun k_ hk_=>(.inr (Nat.le_trans (below_size (by repeat (first|(with_reducible first|exact HB.out|apply below_alloc|apply pw_below_drewN|apply below_drew1)|exact HB.out))) hk_)))) (below_size (by repeat (first|(with_reducible first|exact HB.out|apply below_alloc|apply pw_below_drewN|apply below_drew1)|exact HB.out))));have n3_:=z_ (below_step (by repeat (first|(with_reducible first|exact HB.out|apply below_alloc|apply pw_below_drewN|apply below_drew1)|exact HB.out)) hb);clear HO4;clear HO5;clear HB;have HO4:=n0_;have HO5:=n1_;have HO214:=n2_;have HB:=n3_;clear n0_ n1_ n2_ n3_;(try clear hb);(try clear hb2);(try clear hk);(try clear hi);(try clear ho0))|((with_reducible refine gate_callee (f:=77) rfl ?_);refine goesL_ (some 18) rfl rfl Tryd.func77 (by kernel_rfl) rfl #[.slice A2 l2.length c2,.int .i64 a1] rfl (by (try simp only [List.map_toArray,List.map_cons,List.map_nil]);first|done|rfl|(simp only [List.length_drop,List.length_take];rfl)) ?_;(with_reducible refine (bits_First.calls _ _ l2 a1 t215 _ ?side1 ?side2 A8.out).mono ?_);(case side1=>repeat (first|exact (Kd.C_below HR2.out HB.out)|(with_reducible refine Kd.C_alloc ?_ _)|(with_reducible refine Kd.C_drewN ?_ _)|(with_reducible refine Kd.C_drew ?_)));(case side2=>exact HC2.out);rintro e w12 ⟨v216,rfl,ho0,hb⟩;refine ⟨_,rfl,?_⟩;have n0_:=z_ (Kd.V_elder' (by (with_reducible repeat (first|apply Kd.V_alloc|apply Kd.V_drewN|apply Kd.V_drew));exact HO4.out) (Kd.R_base ho0) hb);have n1_:=z_ (Kd.V_elder' (by (with_reducible repeat (first|apply Kd.V_alloc|apply Kd.V_drewN|apply Kd.V_drew));exact HO5.out) (Kd.R_base ho0) hb);have n2_:=z_ (Kd.V_elder' (by (with_reducible repeat (first|apply Kd.V_alloc|apply Kd.V_drewN|apply Kd.V_drew));exact HO214.out) (Kd.R_base ho0) hb);have n3_:=z_ (Kd.R_lower (Kd.R_newM (M:=fun k_=>(w.heap.size<=k_)) ho0 (below_size (by repeat (first|(with_reducible first|exact HB.out|apply below_alloc|apply pw_below_drewN|apply below_drew1)|exact HB.out))) (fun k_ h_=>h_)) (below_size (by repeat (first|(with_reducible first|exact HB.out|apply below_alloc|apply pw_below_drewN|apply below_drew1)|exact HB.out))));have n4_:=z_ (below_step (by repeat (first|(with_reducible first|exact HB.out|apply below_alloc|apply pw_below_drewN|apply below_drew1)|exact HB.out)) hb);clear HO4;clear HO5;clear HO214;clear HB;have HO4:=n0_;have HO5:=n1_;have HO214:=n2_;have HO217:=n3_;have HB:=n4_;clear n0_ n1_ n2_ n3_ n4_;(try clear hb);(try clear hb2);(try clear hk);(try clear hi);(try clear ho0))|((with_reducible refine gate_callee (f:=94) rfl ?_);refine goesL_ (some 20) rfl rfl Tryd.func94 (by kernel_rfl) rfl #[.int .i64 a3] rfl (by (try simp only [List.map_toArray,List.map_cons,List.map_nil]);first|done|rfl|(simp only [List.length_drop,List.length_take];rfl)) ?_;(with_reducible refine (texts_Number.calls a3 t218 _ A9.out).mono ?_);rintro e w13 ⟨v219,rfl,ho0,hb⟩;refine ⟨_,rfl,?_⟩;have n0_:=z_ (Kd.V_below (by (with_reducible repeat (first|apply Kd.V_alloc|apply Kd.V_drewN|apply Kd.V_drew));exact HO4.out) hb);have n1_:=z_ (Kd.V_below (by (with_reducible repeat (first|apply Kd.V_alloc|apply Kd.V_drewN|apply Kd.V_drew));exact HO5.out) hb);have n2_:=z_ (Kd.V_below (by (with_reducible repeat (first|apply Kd.V_alloc|apply Kd.V_drewN|apply Kd.V_drew));exact HO214.out) hb);have n3_:=z_ (Kd.R_below (by (with_reducible repeat (first|apply Kd.R_alloc|apply Kd.R_drewN|apply Kd.R_drew));exact HO217.out) hb);have n4_:=z_ (Kd.V_lower (Kd.V_mono (ok':=fun k_=>((P4_ k_\/P5_ k_)\/w.heap.size<=k_)/\some k_≠(v216:Value).ownBlock) ho0 (fun k_ hk_=>⟨(.inr (Nat.le_trans (below_size (by repeat (first|(with_reducible first|exact HB.out|apply below_alloc|apply pw_below_drewN|apply below_drew1)|exact HB.out))) hk_)),(Kd.fresh' (Kd.R_lt (by (with_reducible repeat (first|apply Kd.R_alloc|apply Kd.R_drewN|apply Kd.R_drew));exact HO217.out)) k_ hk_)⟩)) (below_size (by repeat (first|(with_reducible first|exact HB.out|apply below_alloc|apply pw_below_drewN|apply below_drew1)|exact HB.out))));have n5_:=z_ (below_step (by repeat (first|(with_reducible first|exact HB.out|apply below_alloc|apply pw_below_drewN|apply below_drew1)|exact HB.out)) hb);clear HO4;clear HO5;clear HO214;clear HO217;clear HB;have HO4:=n0_;have HO5:=n1_;have HO214:=n2_;have HO217:=n3_;have HO220:=n4_;have HB:=n5_;clear n0_ n1_ n2_ n3_ n4_ n5_;(try clear hb);(try clear hb2);(try clear hk);(try clear hi);(try clear ho0);obtain ⟨Ao14,co14,eo14⟩:=Kd.V_slice HO214.out;subst eo14;obtain ⟨Ao15,co15,eo15⟩:=Kd.R_slice HO217.out;subst eo15;obtain ⟨Ao16,co16,eo16⟩:=Kd.V_slice HO220.out;subst eo16)|((with_reducible refine gate_dst (N:=23) rfl ?_);refine Kd.N_lit (Kd.slice 5 (Kd.int .u8)) _ 31 ?hg (N':=23) ?hd (xs:=([t212,t215,t218,l4,l5]:List (List Int))) (inner:=[.slice Ao14 t212.length co14,.slice Ao15 t215.length co15,.slice Ao16 t218.length co16,.slice A4 l4.length c4,.slice A5 l5.length c5]) (ok:=(fun k_=>((P4_ k_\/P5_ k_)\/w.heap.size<=k_))) (okp:=(fun k_=>((P4_ k_\/P5_ k_)\/w.heap.size<=k_))) ?hr ?hp (fun _ hk=>hk) ((show ∀k_,w13.heap.size<=k_->(fun k_=>((P4_ k_\/P5_ k_)\/w.heap.size<=k_)) k_ from fun k_ hk=>(.inr (Nat.le_trans (below_size (by repeat (first|(with_reducible first|exact HB.out|apply below_alloc|apply pw_below_drewN|apply below_drew1)|exact HB.out))) hk))) _ (Nat.le_refl _)) (Below.refl _ _) (Nat.le_refl _) (by simp) ?_;(case hd=>rfl);(case hg=>rfl);(case hr=>first|(go_simp;done)|(go_simp;rfl));(case hp=>exact (Reps.one (show Kd.FK (Kd.slice 5 (Kd.int .u8)) _ _ t212 [.slice Ao14 t212.length co14] from (Kd.FK_slice_mk (Kd.V_reads' (Kd.V_mono (ok':=(fun k_=>((P4_ k_\/P5_ k_)\/w.heap.size<=k_))) (HO214.out) (fun k_ hk=>hk.1))).2.1 (Kd.V_F (Kd.V_mono (ok':=(fun k_=>((P4_ k_\/P5_ k_)\/w.heap.size<=k_))) (HO214.out) (fun k_ hk=>hk.1))))) (Reps.one (show Kd.FK (Kd.slice 5 (Kd.int .u8)) _ _ t215 [.slice Ao15 t215.length co15] from (Kd.FK_slice_mk (Kd.R_reads' (Kd.R_mono (ok':=(fun k_=>((P4_ k_\/P5_ k_)\/w.heap.size<=k_))) (HO217.out) (fun k_ hk=>(.inr (hk.1))))).2.1 (Kd.R_F (Kd.R_mono (ok':=(fun k_=>((P4_ k_\/P5_ k_)\/w.heap.size<=k_))) (HO217.out) (fun k_ hk=>(.inr (hk.1))))))) (Reps.one (show Kd.FK (Kd.slice 5 (Kd.int .u8)) _ _ t218 [.slice Ao16 t218.length co16] from (Kd.FK_slice_mk (Kd.V_reads' (Kd.V_mono (ok':=(fun k_=>((P4_ k_\/P5_ k_)\/w.heap.size<=k_))) (HO220.out) (fun k_ hk=>hk.1))).2.1 (Kd.V_F (Kd.V_mono (ok':=(fun k_=>((P4_ k_\/P5_ k_)\/w.heap.size<=k_))) (HO220.out) (fun k_ hk=>hk.1))))) (Reps.one (show Kd.FK (Kd.slice 5 (Kd.int .u8)) _ _ l4 [.slice A4 l4.length c4] from (Kd.FK_slice_mk (Kd.V_reads' (Kd.V_mono (ok':=(fun k_=>((P4_ k_\/P5_ k_)\/w.heap.size<=k_))) (HO4.out) (fun k_ hk=>hk.1))).2.1 (Kd.V_F (Kd.V_mono (ok':=(fun k_=>((P4_ k_\/P5_ k_)\/w.heap.size<=k_))) (HO4.out) (fun k_ hk=>hk.1))))) (Reps.one (show Kd.FK (Kd.slice 5 (Kd.int .u8)) _ _ l5 [.slice A5 l5.length c5] from (Kd.FK_slice_mk (Kd.V_reads' (Kd.V_mono (ok':=(fun k_=>((P4_ k_\/P5_ k_)\/w.heap.size<=k_))) (HO5.out) (fun k_ hk=>hk.1))).2.1 (Kd.V_F (Kd.V_mono (ok':=(fun k_=>((P4_ k_\/P5_ k_)\/w.heap.size<=k_))) (HO5.out) (fun k_ hk=>hk.1))))) (Reps.none _ _)))))));intro v222 w17 ho18 hb hg_ hnew_;clear hg_ hnew_;(first|rw [<-Ny221.out] at ho18|(simp only [Int.reduceToNat] at ho18;rw [<-Ny221.out] at ho18));have n0_:=z_ (Kd.V_elder' (by (with_reducible repeat (first|apply Kd.V_alloc|apply Kd.V_drewN|apply Kd.V_drew));exact HO4.out) (Kd.N_base ho18) hb);have n1_:=z_ (Kd.V_elder' (by (with_reducible repeat (first|apply Kd.V_alloc|apply Kd.V_drewN|apply Kd.V_drew));exact HO5.out) (Kd.N_base ho18) hb);have n2_:=z_ (Kd.V_elder' (by (with_reducible repeat (first|apply Kd.V_alloc|apply Kd.V_drewN|apply Kd.V_drew));exact HO214.out) (Kd.N_base ho18) hb);have n3_:=z_ (Kd.V_elder' (by (with_reducible repeat (first|apply Kd.V_alloc|apply Kd.V_drewN|apply Kd.V_drew));exact HO220.out) (Kd.N_base ho18) hb);have n4_:=z_ (Kd.N_lower ho18 (below_size (by repeat (first|(with_reducible first|exact HB.out|apply below_alloc|apply pw_below_drewN|apply below_drew1)|exact HB.out))));have n5_:=z_ (below_step (by repeat (first|(with_reducible first|exact HB.out|apply below_alloc|apply pw_below_drewN|apply below_drew1)|exact HB.out)) hb);clear HO4;clear HO5;clear HO214;clear HO220;clear HB;clear HO217;have HO4:=n0_;have HO5:=n1_;have HO214:=n2_;have HO220:=n3_;have HO223:=n4_;have HB:=n5_;clear n0_ n1_ n2_ n3_ n4_ n5_;clear hb ho18;obtain ⟨Ao19,co19,eo19⟩:=Kd.N_slice HO223.out;subst eo19)|((with_reducible refine gate_callee (f:=70) rfl ?_);refine goesL_ (some 24) rfl rfl Tryd.func70 (by kernel_rfl) rfl #[.int .i64 a0,.int .i64 2,.slice Ao19 y221.length co19] rfl (by (try simp only [List.map_toArray,List.map_cons,List.map_nil]);first|done|rfl|(simp only [List.length_drop,List.length_take];rfl)) ?_;(with_reducible refine (texts_Hash.calls k a0 2 _ _ y221 t224 _ ?side1 ?side2 (by first|(with_reducible exact HGS.out)|exact GlobS.of HGS.out (by repeat (first|(with_reducible first|exact HB.out|apply below_alloc|apply pw_below_drewN|apply below_drew1)|exact HB.out))|exact GlobS.of HGS.out (by repeat (first|exact Below.refl _ _|apply below_alloc|apply pw_below_drewN|apply below_drew1))) A10.out).mono ?_);(case side1=>repeat (first|exact (Kd.N_reads' HO223.out).2.2|(with_reducible refine Kd.C_alloc ?_ _)|(with_reducible refine Kd.C_drewN ?_ _)|(with_reducible refine Kd.C_drew ?_)));(case side2=>exact (Kd.N_reads' HO223.out).2.1);rintro e w20 ⟨v225,rfl,ho0,hb⟩;refine ⟨_,rfl,?_⟩;have n0_:=z_ (Kd.V_below (by (with_reducible repeat (first|apply Kd.V_alloc|apply Kd.V_drewN|apply Kd.V_drew));exact HO4.out) hb);have n1_:=z_ (Kd.V_below (by (with_reducible repeat (first|apply Kd.V_alloc|apply Kd.V_drewN|apply Kd.V_drew));exact HO5.out) hb);have n2_:=z_ (Kd.V_below (by (with_reducible repeat (first|apply Kd.V_alloc|apply Kd.V_drewN|apply Kd.V_drew));exact HO214.out) hb);have n3_:=z_ (Kd.V_below (by (with_reducible repeat (first|apply Kd.V_alloc|apply Kd.V_drewN|apply Kd.V_drew));exact HO220.out) hb);have n4_:=z_ (Kd.N_below (by (with_reducible repeat (first|apply Kd.N_alloc|apply Kd.N_drewN|apply Kd.N_drew));exact HO223.out) hb);have n5_:=z_ (Kd.V_lower (Kd.V_mono (ok':=fun k_=>((P4_ k_\/P5_ k_)\/w.heap.size<=k_)/\some k_≠(.slice Ao19 y221.length co19:Value).ownBlock) ho0 (fun k_ hk_=>⟨(.inr (Nat.le_trans (below_size (by repeat (first|(with_reducible first|exact HB.out|apply below_alloc|apply pw_below_drewN|apply below_drew1)|exact HB.out))) hk_)),(Kd.fresh' (Kd.N_lt (by (with_reducible repeat (first|apply Kd.N_alloc|apply Kd.N_drewN|apply Kd.N_drew));exact HO223.out)) k_ hk_)⟩)) (below_size (by repeat (first|(with_reducible first|exact HB.out|apply below_alloc|apply pw_below_drewN|apply below_drew1)|exact HB.out))));have n6_:=z_ (below_step (by repeat (first|(with_reducible first|exact HB.out|apply below_alloc|apply pw_below_drewN|apply below_drew1)|exact HB.out)) hb);clear HO4;clear HO5;clear HO214;clear HO220;clear HO223;clear HB;have HO4:=n0_;have HO5:=n1_;have HO214:=n2_;have HO220:=n3_;have HO223:=n4_;have HO226:=n5_;have HB:=n6_;clear n0_ n1_ n2_ n3_ n4_ n5_ n6_;(try clear hb);(try clear hb2);(try clear hk);(try clear hi);(try clear ho0)))
 go_ret
 exact ⟨_,by first|rfl|(simp [errW_none,errW_some]<;>rfl)|(simp [*,errW_none,errW_some]<;>rfl),by (with_reducible repeat (first|apply Kd.V_alloc|apply Kd.V_drewN|apply Kd.V_drew));exact Kd.V_mono HO226.out (fun _ hk=>hk.1),by repeat (first|(with_reducible first|exact HB.out|apply below_alloc|apply pw_below_drewN|apply below_drew1)|exact HB.out)⟩
def annalsref09_LeafHash.f (k:Nat) (a0:Int) (l1:List Int) (l2:List Int) (a3:Int):Option (List Int):=(annalsref02_Number.f k a3).bind fun t188=>((annalsref02_Hash.f k a0 1 (([l1,l2,t188]:List (List Int)))).bind fun t194=>(some t194))
theorem annalsref09_LeafHash.mono : ∀a0 a1 a2 a3 k,LeO (annalsref09_LeafHash.f k a0 a1 a2 a3) (annalsref09_LeafHash.f (k+1) a0 a1 a2 a3):=by
 intro a0 a1 a2 a3 k
 unfold annalsref09_LeafHash.f
 repeat' first
  | (with_reducible exact annalsref02_Hash.mono _ _ _ _)
  | (with_reducible exact annalsref02_Number.mono _ _)
  | (with_reducible exact LeO.refl _)
  | (with_reducible exact LeO.none _)
  | (with_reducible refine LeO.ite ?_ ?_)
  | (with_reducible refine LeO.bind ?_ (fun _=>?_))
  | exact annalsref02_Hash.mono _ _ _ _
  | exact annalsref02_Number.mono _ _
  | exact LeO.none _
  | refine LeO.ite ?_ ?_
  | refine LeO.bind ?_ (fun _=>?_)
def annalsref09_ForkHash.f (k:Nat) (a0:Int) (a1:Int) (l2:List Int) (a3:Int) (l4:List Int) (l5:List Int):Option (List Int):=(annalsref02_Number.f k a1).bind fun t234=>((annalsref03_First.f k l2 a1).bind fun t237=>((annalsref02_Number.f k a3).bind fun t240=>((annalsref02_Hash.f k a0 2 (([t234,t237,t240,l4,l5]:List (List Int)))).bind fun t246=>(some t246))))
theorem annalsref09_ForkHash.mono : ∀a0 a1 a2 a3 a4 a5 k,LeO (annalsref09_ForkHash.f k a0 a1 a2 a3 a4 a5) (annalsref09_ForkHash.f (k+1) a0 a1 a2 a3 a4 a5):=by
 intro a0 a1 a2 a3 a4 a5 k
 unfold annalsref09_ForkHash.f
 repeat' first
  | (with_reducible exact annalsref02_Hash.mono _ _ _ _)
  | (with_reducible exact annalsref02_Number.mono _ _)
  | (with_reducible exact annalsref03_First.mono _ _ _)
  | (with_reducible exact LeO.refl _)
  | (with_reducible exact LeO.none _)
  | (with_reducible refine LeO.ite ?_ ?_)
  | (with_reducible refine LeO.bind ?_ (fun _=>?_))
  | exact annalsref02_Hash.mono _ _ _ _
  | exact annalsref02_Number.mono _ _
  | exact annalsref03_First.mono _ _ _
  | exact LeO.none _
  | refine LeO.ite ?_ ?_
  | refine LeO.bind ?_ (fun _=>?_)
end Go.Proofs.YtdeneoknjeegbaaDoor.P
end
section
namespace Go.Proofs.YtdeneoknjeegbaaDoor.Pure
open Go.RowKit YtdeneoknjeegbaaDoor.P YtdeneoknjeegbaaDoorW.PrintWords YtdeneoknjeegbaaDoorW.PrintLast YtdeneoknjeegbaaDoorW.PrintMore
theorem number_f (n:Int):texts_Number.f n=some (num8 n):=by
 unfold texts_Number.f
 rw [numBytes_eq]
theorem leaf_f (k:Nat) (hk:9<=k) (size:Int) (l1 l2:List Int) (since:Int):arena_LeafHash.f k size l1 l2 since=some (hashB size 1 [l1,l2,num8 since]):=by
 unfold arena_LeafHash.f
 rw [number_f]
 simp only [Option.bind_some]
 rw [hash_f size 1 [l1,l2,num8 since] (by omega) (by simp) k (by simp;omega)]
 rfl
theorem fork_f (k:Nat) (hk:9<=k) (size d:Int) (p:List Int) (newest:Int) (l r:List Int) (hp:p.length<=140737488351232):arena_ForkHash.f k size d p newest l r=some (hashB size 2 [num8 d,firstB p d,num8 newest,l,r]):=by
 unfold arena_ForkHash.f bits_First.f
 rw [number_f,number_f,if_pos (by omega)]
 simp only [Option.bind_some]
 rw [hash_f size 2 [num8 d,firstB p d,num8 newest,l,r] (by omega) (by simp) k (by simp;omega)]
 rfl
end Go.Proofs.YtdeneoknjeegbaaDoor.Pure
end
section
namespace Go.Proofs.YtdeneoknjeegbaaDoor.P
open Go.RowKit YtdeneoknjeegbaaDoor.Pure YtdeneoknjeegbaaDoorW.PrintWords YtdeneoknjeegbaaDoorW.PrintLast YtdeneoknjeegbaaDoorW.PrintMore
theorem ArenaP.start {w w1 w':World} {base p:Nat} {size room:Int} {vc vf:Value} {X X1:Nat->Prop} {cs:Cs} (h:ArenaP w1 w' base p size room vc vf X1 cs) (hX:Grew w X X1) (hB:Below w.heap.size w w1) (hb:base<=w.heap.size):ArenaP w w' base p size room vc vf X cs:=by
 obtain ⟨vc',vf',X',hM,h1,h2,h3,h4⟩:=h
 exact ⟨vc',vf',X',hM,fun k hk=>(h1 k hk).imp id (fun h=>Nat.le_trans hB.size h),hX.trans h2 hB.size,(Kept.of_below hB _).then_ h3 (fun k hk=>.inl hk),(hB.mono hb).trans h4⟩
theorem ArenaM.base_le {w:World} {base p:Nat} {size room:Int} {vc vf:Value} {X:Nat->Prop} {cs:Cs} (h:ArenaM w base p size room vc vf X cs):base<=w.heap.size/\p<w.heap.size:=by
 obtain ⟨rows,fr,hv⟩:=h.mem
 have:=hv.blk.lt
 have:=h.hb
 omega
def nodeAt (cs:Cs) (i:Int):Option Nd:=if 0<=i then (cs[i.toNat]?).join else none
theorem at_off {w:World} {p:Nat} {size room:Int} {g n c:Nat} {vf:Value} (h:ABlk w p size room (.slice (some ⟨g,0,none⟩) n c) vf) (hs:size≠0) (hn:n<=9223372036854775807) (k:Nat) (hk:k<n) (hc:w.cell? ⟨g,k*11,none⟩=some (.bool false)):
 Calls Tryd.prog 51 #[.pointer (some ⟨p,0,none⟩),.int .i64 (k:Int)] w fun e w'=>e = .returned (.pointer none)/\w=w':=by
 have HBk:=z_ h
 have HS:=z_ hs
 have hk2:decide (n<=k)=false:=decide_eq_false (by omega)
 have hk3:(k:Int)<(n:Int):=by omega
 have hk4:decide ((k:Int)<0)=false:=decide_eq_false (by omega)
 have hk5:0<=(k:Int):=by omega
 clear h hs
 go_enter Tryd.func51,Tryd.ntmps51
 go_wp2_with fail
 refine (none_calls HBk.out HS.out).mono ?_
 rintro e w' ⟨rfl,rfl⟩
 obtain ⟨c0,c1,c2,c3⟩:=HBk.out.cells
 go_wp2_with fail
 go_ret
 exact ⟨rfl,rfl⟩
def AtV (w:World) (X:Nat->Prop) (o:Option Nd) (v:Value):Prop:=match o with
 | none=>v = .pointer none
 | some n=>∃(g d:Nat) (r:List Value),v = .pointer (some ⟨g,d,none⟩)/\RowOf w X n r/\∀j u,r[j]? = some u->w.cell? ⟨g,d+j,none⟩=some u
theorem atA_calls {w:World} {base p:Nat} {size room:Int} {vc vf:Value} {X:Nat->Prop} {cs:Cs} (h:ArenaM w base p size room vc vf X cs) (i:Int):
 Calls Tryd.prog 51 #[.pointer (some ⟨p,0,none⟩),.int .i64 i] w fun e w'=>(∃v,e = .returned v/\AtV w X (nodeAt cs i) v)/\w=w':=by
 obtain ⟨rows,fr,hv⟩:=h.mem
 have hs:=h.hs
 have hl:=h.hl
 have hr:=h.hr
 have hlen:=hv.len
 obtain ⟨A,c,rfl⟩:=Kd.R_slice hv.cells
 by_cases h0:i<0
 ·refine (at_neg hv.blk (by omega) i h0).mono ?_
  rintro e w' ⟨rfl,rfl⟩
  exact ⟨⟨_,rfl,by unfold nodeAt;rw [if_neg (by omega)];rfl⟩,rfl⟩
 by_cases h1:(rows.length:Int)<=i
 ·refine (at_past hv.blk (by omega) i (by omega) h1).mono ?_
  rintro e w' ⟨rfl,rfl⟩
  exact ⟨⟨_,rfl,by unfold nodeAt;rw [if_pos (by omega),List.getElem?_eq_none (by omega)];rfl⟩,rfl⟩
 obtain ⟨k,rfl⟩ : ∃k:Nat,i=(k:Int):=⟨i.toNat,by omega⟩
 have hk:k<rows.length:=by omega
 have hro:rows[k]? = some rows[k]:=List.getElem?_eq_getElem hk
 obtain ⟨o,ho⟩ : ∃o,cs[k]? = some o:=⟨_,List.getElem?_eq_getElem (by omega)⟩
 have hok:=hv.row k o _ ho hro
 obtain ⟨_,g,c',e,hc⟩:=raw_row hv.cells k _ hro
 injection e with e1 e2 e3
 subst e1
 have hn:nodeAt cs (k:Int)=o:=by
  unfold nodeAt
  rw [if_pos (by omega),Int.toNat_natCast,ho]
  rfl
 cases o with
 | none=>
   obtain ⟨t,ht⟩:=hok
   have hc0:=hc 0 (.bool false) (by rw [ht];rfl)
   refine (at_off hv.blk (by omega) (by omega) k hk (by simpa using hc0)).mono ?_
   rintro e w' ⟨rfl,rfl⟩
   exact ⟨⟨_,rfl,by rw [hn];rfl⟩,rfl⟩
 | some n=>
   obtain ⟨t,ht,hrow⟩:=hok
   have hc0:=hc 0 (.bool true) (by rw [ht];rfl)
   refine (at_raw hv.blk (by omega) (by omega) k hk (by simpa using hc0)).mono ?_
   rintro e w' ⟨rfl,rfl⟩
   refine ⟨⟨_,rfl,?_⟩,rfl⟩
   rw [hn]
   refine ⟨g,k*11+1,t,rfl,hrow,fun j u hj=>?_⟩
   have:=hc (j+1) u (by rw [ht];simpa using hj)
   rwa [show k*11+1+j=k*11+(j+1) by omega]
theorem usedA_calls {w:World} {base p:Nat} {size room:Int} {vc vf:Value} {X:Nat->Prop} {cs:Cs} (h:ArenaM w base p size room vc vf X cs):
 Calls Tryd.prog 15 #[.pointer (some ⟨p,0,none⟩)] w fun e w'=>e = .returned (.int .i64 (usedN cs:Int))/\Drawn0 w w':=by
 obtain ⟨rows,fr,hv⟩:=h.mem
 obtain ⟨A,c,rfl⟩:=Kd.R_slice hv.cells
 obtain ⟨A',c',rfl⟩:=Kd.R_slice hv.free
 have hs:=h.hs
 have hr:=h.hr
 have hl:=h.hl
 have hlen:=hv.len
 have hok:=hv.ok.len
 have:=used_calls hv.blk (by omega) (by omega) (by omega)
 rwa [show (rows.length:Int)-(fr.length:Int)=(usedN cs:Int) by omega] at this
theorem roomA_calls {w:World} {base p:Nat} {size room:Int} {vc vf:Value} {X:Nat->Prop} {cs:Cs} (h:ArenaM w base p size room vc vf X cs):
 Calls Tryd.prog 19 #[.pointer (some ⟨p,0,none⟩)] w fun e w'=>e = .returned (.int .i64 (room-(usedN cs:Int)))/\Drawn0 w w':=by
 obtain ⟨rows,fr,hv⟩:=h.mem
 obtain ⟨A,c,rfl⟩:=Kd.R_slice hv.cells
 obtain ⟨A',c',rfl⟩:=Kd.R_slice hv.free
 have hs:=h.hs
 have hr:=h.hr
 have hl:=h.hl
 have hlen:=hv.len
 have hok:=hv.ok.len
 have:=room_calls hv.blk (by omega) (by omega) (by omega) (by omega) (by omega)
 rwa [show (rows.length:Int)-(fr.length:Int)=(usedN cs:Int) by omega] at this
def leafNd (size:Int) (l1 l2:List Int) (since:Int):Nd:=⟨true,l1,l2,since,0,[],since,0,0,hashB size 1 [l1,l2,num8 since]⟩
structure PutPost (c:Prop) (w w':World) (base p:Nat) (size room:Int) (vc vf:Value) (X:Nat->Prop) (cs:Cs) (n:Nd) (e:Ending):Prop where
 bad:c->e = .returned (.tuple #[.int .i64 0,.int .i64 1])/\ArenaP w w' base p size room vc vf X cs
 full : ¬c->(usedN cs:Int)=room->e = .returned (.tuple #[.int .i64 0,.int .i64 4])/\ArenaP w w' base p size room vc vf X cs
 ok : ¬c->(usedN cs:Int)≠room->e = .returned (.tuple #[.int .i64 (lowN cs:Int),.int .i64 0])/\ArenaP w w' base p size room vc vf X (putC cs n)
attribute [local go_sem] max2_int min2_int max_two min_two
set_option maxHeartbeats 4000000 in
set_option maxRecDepth 100000 in
theorem leaf_calls {w:World} {base p:Nat} {size room:Int} {vc vf:Value} {X:Nat->Prop} {cs:Cs} (h:ArenaM w base p size room vc vf X cs) (A1 A2:Option Addr) (c1 c2:Nat) (l1 l2:List Int) (since:Int)
 (b1:BX w X (.slice A1 l1.length c1) l1) (b2:BX w X (.slice A2 l2.length c2) l2) (hGS:GlobS w):
 Calls Tryd.prog 37 #[.pointer (some ⟨p,0,none⟩),.slice A1 l1.length c1,.slice A2 l2.length c2,.int .i64 since] w
  fun e w'=>PutPost (since<0\/65535<l1.length\/65535<l2.length) w w' base p size room vc vf X cs (leafNd size l1 l2 since) e:=by
 have hs:=h.hs
 obtain ⟨hbw,hpw⟩:=h.base_le
 have hblk : ∃vc' vf',ABlk w p size room vc' vf':=by
  obtain ⟨rows,fr,hv⟩:=h.mem
  exact ⟨vc,vf,hv.blk⟩
 obtain ⟨vc0,vf0,hblk⟩:=hblk
 obtain ⟨j,hj⟩ : ∃j:Int,j=if l1.length<l2.length then (l2.length:Int) else (l1.length:Int):=⟨_,rfl⟩
 have hj2:=hj.symm
 have hjl:(65535<j)↔(65535<l1.length\/65535<l2.length):=by
  rw [hj]
  split<;>omega
 have HBk:=z_ hblk
 have HS:=z_ (show size≠0 by omega)
 have HM:=z_ h
 have H1:=z_ b1
 have H2:=z_ b2
 have HGS:=z_ hGS
 have HBW:=z_ (And.intro hbw hpw)
 by_cases hsi:since<0
 ·have hsd:=decide_eq_true hsi
  have HC:=z_ (show since<0\/65535<l1.length\/65535<l2.length from .inl hsi)
  clear h hs hbw hpw hblk b1 b2 hGS hj hjl hsi
  go_enter Tryd.func37,Tryd.ntmps37
  go_wp2_with fail
  refine (none_calls HBk.out HS.out).mono ?_
  rintro e w' ⟨rfl,rfl⟩
  go_wp2_with fail
  go_ret2
  exact ⟨fun _=>⟨rfl,ArenaP.of_below HM.out (Below.refl _ _)⟩,fun h=>absurd HC.out h,fun h=>absurd HC.out h⟩
 have hsd:=decide_eq_false hsi
 by_cases hlong:65535<j
 ·have hj1:=decide_eq_true hlong
  have HC:=z_ (show since<0\/65535<l1.length\/65535<l2.length from .inr (hjl.1 hlong))
  clear h hs hbw hpw hblk b1 b2 hGS hj hjl hsi hlong
  go_enter Tryd.func37,Tryd.ntmps37
  go_wp2_with fail
  refine (none_calls HBk.out HS.out).mono ?_
  rintro e w' ⟨rfl,rfl⟩
  go_wp2_with fail
  go_ret2
  exact ⟨fun _=>⟨rfl,ArenaP.of_below HM.out (Below.refl _ _)⟩,fun h=>absurd HC.out h,fun h=>absurd HC.out h⟩
 have hj1:=decide_eq_false hlong
 have HC:=z_ (show ¬(since<0\/65535<l1.length\/65535<l2.length) from fun hc=>hc.elim hsi (fun h=>hlong (hjl.2 h)))
 clear h hs hbw hpw hblk b1 b2 hGS hj hjl hsi hlong
 go_enter Tryd.func37,Tryd.ntmps37
 go_wp2_with fail
 refine (none_calls HBk.out HS.out).mono ?_
 rintro e w' ⟨rfl,rfl⟩
 go_wp2_with fail
 refine (slices_Clone_byte_byte.calls A1 c1 l1 l1 _ (Kd.V_reads' H1.out).2.2 (Kd.V_reads' H1.out).2.1 (if_pos (by have:=HC.out;omega))).mono ?_
 rintro e1 w1 ⟨v,rfl,hR1,hB1⟩
 obtain ⟨B1,d1,rfl⟩:=Kd.R_slice hR1
 have HR1:=z_ hR1
 have HB1:=z_ hB1
 clear hR1 hB1
 go_wp2_with fail
 refine (slices_Clone_byte_byte.calls A2 c2 l2 l2 _ (Kd.V_reads' (Kd.V_below H2.out HB1.out)).2.2 (Kd.V_reads' H2.out).2.1 (if_pos (by have:=HC.out;omega))).mono ?_
 rintro e2 w2 ⟨v,rfl,hR2,hB2⟩
 obtain ⟨B2,d2,rfl⟩:=Kd.R_slice hR2
 have HR2:=z_ hR2
 have HB2:=z_ hB2
 clear hR2 hB2
 have HBk2:=z_ ((HBk.out.below HB1.out).below HB2.out)
 obtain ⟨k0,k1,k2,k3⟩:=HBk2.out.cells
 have hp2:p<w2.heap.size:=HBk2.out.lt
 go_wp2_with fail
 obtain ⟨W3,hW3⟩ : ∃W3,W3=w2.alloc (.cells #[.bool true,.slice B1 l1.length d1,.slice B2 l2.length d2,.int .i64 since,.int .i64 0,.slice none 0 0,.int .i64 since,.int .i64 0,.int .i64 0,.slice none 0 0] 39):=⟨_,rfl⟩
 rw [<-hW3]
 have hB3:Below w2.heap.size w2 W3:=by rw [hW3];exact below_alloc (Below.refl _ _) _
 have hB03:Below w.heap.size w W3:=(HB1.out.trans (HB2.out.mono HB1.out.size)).trans (hB3.mono (by have:=HB1.out.size;have:=HB2.out.size;omega))
 have hN3:W3.heap[w2.heap.size]? = some (.cells #[.bool true,.slice B1 l1.length d1,.slice B2 l2.length d2,.int .i64 since,.int .i64 0,.slice none 0 0,.int .i64 since,.int .i64 0,.int .i64 0,.slice none 0 0] 39 (0,0)):=by rw [hW3];exact heap_alloc_new w2 _
 have HB3:=z_ hB3
 have HB03:=z_ hB03
 have HN3:=z_ hN3
 clear hB3 hB03 hN3 hW3 k0 k1 k2 k3 hp2
 refine (arena_LeafHash.calls 9 size (fun k=>X k/\k<w.heap.size) A1 c1 l1 (fun k=>X k/\k<w.heap.size) A2 c2 l2 since (hashB size 1 [l1,l2,num8 since]) W3 (Kd.V_below (Kd.V_bound H1.out) HB03.out) (Kd.V_below (Kd.V_bound H2.out) HB03.out) (GlobS.of HGS.out HB03.out) (leaf_f 9 (by decide) size l1 l2 since)).mono ?_
 obtain ⟨lh,hlh⟩ : ∃lh,lh=hashB size 1 [l1,l2,num8 since]:=⟨_,rfl⟩
 rw [<-hlh]
 have HLH:=z_ hlh
 clear hlh
 rintro e3 w4 ⟨v,rfl,hV4,hB4⟩
 obtain ⟨B9,d9,rfl⟩:=Kd.V_slice hV4
 have HV4:=z_ hV4
 have HB4:=z_ hB4
 have HN4:=z_ ((hB4.block w2.heap.size (blk_lt HN3.out)).trans HN3.out)
 clear hV4 hB4
 obtain ⟨b,hb⟩ : ∃b,b=w2.heap.size:=⟨_,rfl⟩
 rw [<-hb] at HN4
 rw [<-hb]
 have HBE:=z_ hb
 clear hb
 have m0:=blk_cell HN4.out 0
 have m1:=blk_cell HN4.out 1
 have m2:=blk_cell HN4.out 2
 have m3:=blk_cell HN4.out 3
 have m4:=blk_cell HN4.out 4
 have m5:=blk_cell HN4.out 5
 have m6:=blk_cell HN4.out 6
 have m7:=blk_cell HN4.out 7
 have m8:=blk_cell HN4.out 8
 have m9:=blk_cell HN4.out 9
 have f9:=blk_frozen HN4.out 9
 go_wp2_with fail
 clear m0 m1 m2 m3 m4 m5 m6 m7 m8 m9 f9
 obtain ⟨W5,hW5⟩ : ∃W5,W5=w4.setCell ⟨b,9,none⟩ (.slice B9 lh.length d9):=⟨_,rfl⟩
 rw [<-hW5]
 have s1:=HB1.out.size
 have s2:=HB2.out.size
 have s3:=HB3.out.size
 have s4:=HB4.out.size
 have hb3:b<W3.heap.size:=by rw [HBE.out];exact blk_lt HN3.out
 have hbe:=HBE.out
 have hB04:Below w.heap.size w w4:=HB03.out.trans (HB4.out.mono (by omega))
 have hB05:Below w.heap.size w W5:=by rw [hW5];exact Below.setCell hB04 (by show w.heap.size<=b;omega) _
 have hsz:W5.heap.size=w4.heap.size:=by rw [hW5];simp [World.setCell]
 have hfar : ∀k,k≠b->W5.heap[k]? = w4.heap[k]? := fun k hk=>by rw [hW5];exact Below.heap_setCell w4 ⟨b,9,none⟩ _ k hk
 obtain ⟨X4,hX4⟩ : ∃X4:Nat->Prop,X4=fun k=>X k\/(w.heap.size<=k/\k<w4.heap.size/\k≠b):=⟨_,rfl⟩
 have hsepX : ∀k,X k->k<w.heap.size/\¬OwnS p vc vf k:=by
  obtain ⟨rows,fr,hv⟩:=HM.out.mem
  exact hv.sep
 have hownlt : ∀k,OwnS p vc vf k->k<w.heap.size:=by
  obtain ⟨rows,fr,hv⟩:=HM.out.mem
  exact hv.own_lt
 have hM5:ArenaM W5 base p size room vc vf X4 cs:=HM.out.step (by omega) (fun k hk _=>hB05.block k hk) (fun k hx=>by rw [hX4];exact .inl hx) (fun k hx=>by
  rw [hX4] at hx
  rcases hx with hx|hx
  ·exact ⟨by have:=(hsepX k hx).1;omega,(hsepX k hx).2⟩
  ·exact ⟨by omega,fun ho=>by have:=hownlt k ho;omega⟩)
 have hb1:BX W5 X4 (.slice B1 l1.length d1) l1:=by
  have h1:=Kd.R_V (base':=0) (Kd.R_bound HR1.out)
  refine Kd.V_mono (Kd.V_step h1 (fun k hk hl=>?_)) (fun k hk=>by rw [hX4];exact .inr ⟨hk.2.1,by omega,by omega⟩)
  rw [hfar k (by omega),HB4.out.block k (by omega),HB3.out.block k (by omega),HB2.out.block k hl]
 have hb2:BX W5 X4 (.slice B2 l2.length d2) l2:=by
  have h1:=Kd.R_V (base':=0) (Kd.R_bound HR2.out)
  refine Kd.V_mono (Kd.V_step h1 (fun k hk hl=>?_)) (fun k hk=>by rw [hX4];exact .inr ⟨by omega,by omega,by omega⟩)
  rw [hfar k (by omega),HB4.out.block k (by omega),HB3.out.block k (by omega)]
 have hb9:BX W5 X4 (.slice B9 lh.length d9) lh:=by
  have h1:=Kd.V_bound HV4.out
  refine Kd.V_mono (Kd.V_step h1 (fun k hk hl=>?_)) (fun k hk=>?_)
  ·refine hfar k ?_
   rcases hk.1 with (hk1|hk1)|hk1<;>omega
  ·rw [hX4]
   rcases hk.1 with (hk1|hk1)|hk1
   ·exact .inl hk1.1
   ·exact .inl hk1.1
   ·exact .inr ⟨by omega,hk.2,by omega⟩
 have HGR:=z_ (show Grew w X X4 from fun k hk=>by
  rw [hX4] at hk
  exact hk.imp id (fun h=>h.1))
 have HB05:=z_ hB05
 have hput:=put_calls hM5 ⟨true,l1,l2,since,0,[],since,0,0,lh⟩ B1 B2 none B9 d1 d2 0 d9 hb1 hb2 (Kd.V_nil _ _ _ _ _) hb9
 clear hM5 hb1 hb2 hb9 hX4 hsepX hownlt hfar hsz hB05 hB04 hbe hb3 s1 s2 s3 s4 hW5
 refine hput.mono ?_
 rintro e5 w5 hpost
 have HPO:=z_ hpost
 clear hpost hput
 by_cases hfull:(usedN cs:Int)=room
 ·have hp:=HPO.out
  rw [if_pos hfull] at hp
  obtain ⟨rfl,hp⟩:=hp
  have HP:=z_ hp
  have HFU:=z_ hfull
  clear hp HPO hfull
  go_wp2_with fail
  go_ret2
  exact ⟨fun h=>absurd h HC.out,fun _ _=>⟨rfl,HP.out.start HGR.out HB05.out HBW.out.1⟩,fun _ h=>absurd HFU.out h⟩
 ·have hp:=HPO.out
  rw [if_neg hfull] at hp
  obtain ⟨rfl,hp⟩:=hp
  have HP:=z_ hp
  have HFU:=z_ hfull
  clear hp HPO hfull
  go_wp2_with fail
  go_ret2
  refine ⟨fun h=>absurd h HC.out,fun _ h=>absurd h HFU.out,fun _ _=>⟨rfl,?_⟩⟩
  unfold leafNd
  rw [<-HLH.out]
  exact HP.out.start HGR.out HB05.out HBW.out.1
end Go.Proofs.YtdeneoknjeegbaaDoor.P
end
section
namespace Go.Proofs.YtdeneoknjeegbaaDoor.P
open Go.RowKit
inductive Reach (cs:Cs) (roots:List Int):Int->Prop
 | root {i:Int}:i∈roots->(nodeAt cs i).isSome=true->Reach cs roots i
 | kid {i c:Int} {n:Nd}:Reach cs roots i->nodeAt cs i=some n->n.f0=false->(c=n.f7\/c=n.f8)->(nodeAt cs c).isSome=true->Reach cs roots c
theorem Reach.mono {cs:Cs} {a b:List Int} {i:Int} (h:Reach cs a i) (hs : ∀x,x∈a->x∈b):Reach cs b i:=by
 induction h with
 | root h1 h2=>exact .root (hs _ h1) h2
 | kid _ h2 h3 h4 h5 ih=>exact .kid ih h2 h3 h4 h5
theorem nodeAt_lt {cs:Cs} {i:Int} (h:(nodeAt cs i).isSome=true):0<=i/\i.toNat<cs.length:=by
 unfold nodeAt at h
 split at h
 ·rename_i h0
  refine ⟨h0,?_⟩
  rcases Nat.lt_or_ge i.toNat cs.length with h1|h1
  ·exact h1
  ·rw [List.getElem?_eq_none h1] at h
   cases h
 ·cases h
def Mk (marks:List Bool) (c:Int):Prop:=marks[c.toNat]? = some true
theorem Mk.set {marks:List Bool} {c:Int} (i:Nat) (h:Mk marks c):Mk (marks.set i true) c:=by
 unfold Mk at *
 by_cases hi:i=c.toNat
 ·subst hi
  exact List.getElem?_set_self (List.getElem?_eq_some_iff.1 h).1
 ·rw [List.getElem?_set_ne hi]
  exact h
structure Dfs (cs:Cs) (roots todo:List Int) (marks:List Bool):Prop where
 len:marks.length=cs.length
 sound : ∀c:Int,0<=c->Mk marks c->Reach cs roots c
 kids : ∀(c d:Int) (n:Nd),0<=c->Mk marks c->nodeAt cs c=some n->n.f0=false->(d=n.f7\/d=n.f8)->(nodeAt cs d).isSome=true->Mk marks d\/d∈todo
 root : ∀r,r∈roots->(nodeAt cs r).isSome=true->Mk marks r\/r∈todo
 todo : ∀t,t∈todo->(nodeAt cs t).isSome=true->Reach cs roots t
theorem Dfs.more {cs:Cs} {roots:List Int} {marks:List Bool} (h:Dfs cs roots [] marks) (r:Int):Dfs cs (roots++[r]) [r] marks:=by
 refine ⟨h.len,fun c h0 hm=>(h.sound c h0 hm).mono (fun x hx=>List.mem_append_left _ hx),fun c d n h0 hm hn hf hd hs=>(h.kids c d n h0 hm hn hf hd hs).imp id (fun hx=>by cases hx),fun x hx hs=>?_,fun t ht hs=>?_⟩
 ·rcases List.mem_append.1 hx with hx|hx
  ·exact (h.root x hx hs).imp id (fun hx=>by cases hx)
  ·exact .inr hx
 ·obtain rfl:t=r:=by simpa using ht
  exact .root (by simp) hs
theorem Dfs.done {cs:Cs} {roots:List Int} {marks:List Bool} (h:Dfs cs roots [] marks) (c:Int) (h0:0<=c):Mk marks c↔Reach cs roots c:=by
 refine ⟨h.sound c h0,fun hr=>?_⟩
 induction hr with
 | root h1 h2=>exact (h.root _ h1 h2).elim id (fun hx=>by cases hx)
 | kid h1 h2 h3 h4 h5 ih=>exact (h.kids _ _ _ (nodeAt_lt (by rw [h2];rfl)).1 (ih (nodeAt_lt (by rw [h2];rfl)).1) h2 h3 h4 h5).elim id (fun hx=>by cases hx)
theorem Dfs.same {cs:Cs} {roots:List Int} {a b:List Bool} (ha:Dfs cs roots [] a) (hb:Dfs cs roots [] b):a=b:=by
 refine List.ext_getElem (by rw [ha.len,hb.len]) (fun k h1 h2=>?_)
 have e1:=ha.done (k:Int) (by omega)
 have e2:=hb.done (k:Int) (by omega)
 unfold Mk at e1 e2
 rw [Int.toNat_natCast,List.getElem?_eq_getElem h1] at e1
 rw [Int.toNat_natCast,List.getElem?_eq_getElem h2] at e2
 have e3:(a[k]=true)↔(b[k]=true):=by
  constructor
  ·intro h
   exact Option.some.inj (e2.2 (e1.1 (by rw [h])))
  ·intro h
   exact Option.some.inj (e1.2 (e2.1 (by rw [h])))
 cases h3:a[k]<;>cases h4:b[k]<;>simp_all
def sweepS (marks:List Bool) (cs:Cs):Nat->Cs×Nat
 | 0=>(cs,0)
 | j+1=>if (nodeAt cs (j:Int)).isSome=true/\marks.getD j false=false then ((sweepS marks cs j).1.set j none,(sweepS marks cs j).2+1) else sweepS marks cs j
theorem sweepS_length (marks:List Bool) (cs:Cs) : ∀j,(sweepS marks cs j).1.length=cs.length
 | 0=>rfl
 | j+1=>by
   simp only [sweepS]
   split
   ·rw [List.length_set]
    exact sweepS_length marks cs j
   ·exact sweepS_length marks cs j
theorem sweepS_at (marks:List Bool) (cs:Cs) : ∀(j k:Nat),j<=k->(sweepS marks cs j).1[k]? = cs[k]?
 | 0,k,_=>rfl
 | j+1,k,h=>by
   simp only [sweepS]
   split
   ·rw [List.getElem?_set_ne (by omega)]
    exact sweepS_at marks cs j k (by omega)
   ·exact sweepS_at marks cs j k (by omega)
end Go.Proofs.YtdeneoknjeegbaaDoor.P
end
section
namespace Go.Proofs.YtdeneoknjeegbaaDoor.P
open Go.RowKit YtdeneoknjeegbaaDoorW.PrintWords YtdeneoknjeegbaaDoorW.PrintLast YtdeneoknjeegbaaDoorW.PrintMore
abbrev MarksR (w:World) (base:Nat) (v:Value) (l:List Bool):Prop:=Kd.R Kd.bool 4 w base (fun _=>True) v l
theorem MarksR.cell {w:World} {base g n c:Nat} {l:List Bool} (h:MarksR w base (.slice (some ⟨g,0,none⟩) n c) l) (i:Nat) (hi:i<n):w.cell? ⟨g,i,none⟩=some (.bool (l.getD i false))/\w.frozen? ⟨g,i,none⟩=false:=by
 have:=Kd.R_celln false h (i:Int) (by omega) (by omega)
 rw [Int.toNat_natCast] at this
 exact this
theorem MarksR.put {w:World} {base g n c:Nat} {l:List Bool} (h:MarksR w base (.slice (some ⟨g,0,none⟩) n c) l) (i:Nat) (x:Bool):MarksR (w.setCell ⟨g,i,none⟩ (.bool x)) base (.slice (some ⟨g,0,none⟩) n c) (l.set i x):=by
 have:=Kd.R_putn h (i:Int) x
 rw [Int.toNat_natCast] at this
 exact this
def bcell (w:World) (g k:Nat):Bool:=match w.cell? ⟨g,k,none⟩ with
 | some (.bool b)=>b
 | _=>false
theorem MarksR.list {w:World} {base g n c:Nat} {l:List Bool} (h:MarksR w base (.slice (some ⟨g,0,none⟩) n c) l):(List.range n).map (bcell w g)=l:=by
 have hl:n=l.length:=(Kd.R_reads' h).1
 refine List.ext_getElem (by simp [hl]) (fun k h1 h2=>?_)
 rw [List.getElem_map,List.getElem_range]
 unfold bcell
 rw [(h.cell k (by omega)).1]
 simp [List.getD_eq_getElem?_getD,List.getElem?_eq_getElem h2]
end Go.Proofs.YtdeneoknjeegbaaDoor.P
end
section
namespace Go.Proofs.YtdeneoknjeegbaaDoor.P
open Go.RowKit YtdeneoknjeegbaaDoor.Pure YtdeneoknjeegbaaDoorW.PrintWords YtdeneoknjeegbaaDoorW.PrintLast YtdeneoknjeegbaaDoorW.PrintMore
def hashAt (size:Int) (cs:Cs) (i:Int):List Int:=match nodeAt cs i with
 | some n=>n.f9
 | none=>if i = -1 then hashB size 0 [] else []
theorem blkA {w:World} {base p:Nat} {size room:Int} {vc vf:Value} {X:Nat->Prop} {cs:Cs} (h:ArenaM w base p size room vc vf X cs):ABlk w p size room vc vf:=by
 obtain ⟨rows,fr,hv⟩:=h.mem
 exact hv.blk
theorem hash0_f (size:Int):texts_Hash.f 5 size 0 []=some (hashB size 0 []):=hash_f size 0 [] (by omega) (by simp) 5 (by simp)
set_option maxHeartbeats 4000000 in
set_option maxRecDepth 100000 in
theorem hashA_calls {w:World} {base p:Nat} {size room:Int} {vc vf:Value} {X:Nat->Prop} {cs:Cs} (h:ArenaM w base p size room vc vf X cs) (i:Int) (hlen : ∀n,nodeAt cs i=some n->n.f9.length<=65535) (hGS:GlobS w):
 Calls Tryd.prog 33 #[.pointer (some ⟨p,0,none⟩),.int .i64 i] w fun e w'=>(∃v,e = .returned v/\BX w' (fun k=>w.heap.size<=k) v (hashAt size cs i))/\Below w.heap.size w w':=by
 have HBk:=z_ (blkA h)
 have HS:=z_ (show size≠0 by have:=h.hs;omega)
 have HM:=z_ h
 have HGS:=z_ hGS
 have HLEN:=z_ hlen
 clear h hGS hlen
 go_enter Tryd.func33,Tryd.ntmps33
 go_wp2_with fail
 refine (none_calls HBk.out HS.out).mono ?_
 rintro e w' ⟨rfl,rfl⟩
 go_wp2_with fail
 refine (atA_calls HM.out i).mono ?_
 rintro e w' ⟨⟨v,rfl,hv⟩,rfl⟩
 cases ho:nodeAt cs i with
 | none=>
   rw [ho] at hv
   obtain rfl:v = .pointer none:=hv
   by_cases hi:i = -1
   ·have HR:=z_ (show hashAt size cs i=hashB size 0 [] by unfold hashAt;rw [ho];exact if_pos hi)
    have hib:(i== -1)=true:=by simpa using hi
    clear ho hi
    obtain ⟨k0,k1,k2,k3⟩:=HBk.out.cells
    go_wp2_with fail
    refine (texts_Hash.calls 5 size 0 none 0 [] (hashB size 0 []) w (Kd.C_nil _ _) (Nat.le_refl _) HGS.out (hash0_f size)).mono ?_
    rintro e w1 ⟨v,rfl,hV,hB⟩
    have HV:=z_ hV
    have HB:=z_ hB
    clear hV hB
    go_wp2_with fail
    go_ret
    rw [HR.out]
    exact ⟨⟨_,rfl,HV.out⟩,HB.out⟩
   ·have HR:=z_ (show hashAt size cs i = [] by unfold hashAt;rw [ho];exact if_neg hi)
    have hib:(i== -1)=false:=by simpa using hi
    clear ho hi
    go_wp2_with fail
    go_ret
    rw [HR.out]
    exact ⟨⟨_,rfl,Kd.V_nil _ _ _ _ _⟩,Below.refl _ _⟩
 | some n=>
   rw [ho] at hv
   obtain ⟨g,d,r,rfl,⟨A1,A2,A5,A9,c1,c2,c5,c9,hr,b1,b2,b5,b9⟩,hc⟩:=hv
   have hc9:=hc 9 (.slice A9 n.f9.length c9) (by rw [hr];rfl)
   have HR:=z_ (show hashAt size cs i=n.f9 by unfold hashAt;rw [ho])
   have HB9:=z_ b9
   have HL9:=z_ (HLEN.out n ho)
   clear hc hr b1 b2 b5 b9 ho
   go_wp2_with fail
   refine (slices_Clone_byte_byte.calls A9 c9 n.f9 n.f9 _ (Kd.V_reads' HB9.out).2.2 (Kd.V_reads' HB9.out).2.1 (if_pos (by have:=HL9.out;omega))).mono ?_
   rintro e w1 ⟨v,rfl,hV,hB⟩
   have HV:=z_ hV
   have HB:=z_ hB
   clear hV hB
   go_wp2_with fail
   go_ret
   rw [HR.out]
   exact ⟨⟨_,rfl,Kd.V_mono (Kd.R_V (Kd.R_bound HV.out)) (fun k hk=>hk.2.1)⟩,HB.out⟩
theorem index0_run (v0 v1 v2 v3:Value) (w:World):Sem.run Tryd.prog (Instr.index 95 (.agg #[v0,v1,v2,v3]) (.int .i64 0)) w = .ok v0 w:=by kernel_rfl
theorem index1_run (v0 v1 v2 v3:Value) (w:World):Sem.run Tryd.prog (Instr.index 95 (.agg #[v0,v1,v2,v3]) (.int .i64 1)) w = .ok v1 w:=by kernel_rfl
theorem index2_run (v0 v1 v2 v3:Value) (w:World):Sem.run Tryd.prog (Instr.index 95 (.agg #[v0,v1,v2,v3]) (.int .i64 2)) w = .ok v2 w:=by kernel_rfl
theorem index3_run (v0 v1 v2 v3:Value) (w:World):Sem.run Tryd.prog (Instr.index 95 (.agg #[v0,v1,v2,v3]) (.int .i64 3)) w = .ok v3 w:=by kernel_rfl
def NdB (w:World) (g:Nat) (r:List Value):Prop:=w.heap[g]? = some (.cells r.toArray 39 (0,0))
theorem NdB.below {w w1:World} {g:Nat} {r:List Value} (h:NdB w g r) (hb:Below w.heap.size w w1):NdB w1 g r:=blk_below h hb
def putN (w:World) (g:Nat) (x0 x1 x2 x3 x4 x5 x6 x7 x8 x9:Value):World:=((((((((((w.setCell ⟨g,0,none⟩ x0).setCell ⟨g,1,none⟩ x1).setCell ⟨g,2,none⟩ x2).setCell ⟨g,3,none⟩ x3).setCell ⟨g,4,none⟩ x4).setCell ⟨g,5,none⟩ x5).setCell ⟨g,6,none⟩ x6).setCell ⟨g,7,none⟩ x7).setCell ⟨g,8,none⟩ x8).setCell ⟨g,9,none⟩ x9)
theorem putN_nd {w:World} {g:Nat} {y0 y1 y2 y3 y4 y5 y6 y7 y8 y9:Value} (h:NdB w g [y0,y1,y2,y3,y4,y5,y6,y7,y8,y9]) (x0 x1 x2 x3 x4 x5 x6 x7 x8 x9:Value):NdB (putN w g x0 x1 x2 x3 x4 x5 x6 x7 x8 x9) g [x0,x1,x2,x3,x4,x5,x6,x7,x8,x9]:=by
 have h1:NdB (w.setCell ⟨g,0,none⟩ x0) g [x0,y1,y2,y3,y4,y5,y6,y7,y8,y9]:=blk_set h 0 _
 have h2:NdB ((w.setCell ⟨g,0,none⟩ x0).setCell ⟨g,1,none⟩ x1) g [x0,x1,y2,y3,y4,y5,y6,y7,y8,y9]:=blk_set h1 1 _
 have h3:NdB (((w.setCell ⟨g,0,none⟩ x0).setCell ⟨g,1,none⟩ x1).setCell ⟨g,2,none⟩ x2) g [x0,x1,x2,y3,y4,y5,y6,y7,y8,y9]:=blk_set h2 2 _
 have h4:NdB ((((w.setCell ⟨g,0,none⟩ x0).setCell ⟨g,1,none⟩ x1).setCell ⟨g,2,none⟩ x2).setCell ⟨g,3,none⟩ x3) g [x0,x1,x2,x3,y4,y5,y6,y7,y8,y9]:=blk_set h3 3 _
 have h5:NdB (((((w.setCell ⟨g,0,none⟩ x0).setCell ⟨g,1,none⟩ x1).setCell ⟨g,2,none⟩ x2).setCell ⟨g,3,none⟩ x3).setCell ⟨g,4,none⟩ x4) g [x0,x1,x2,x3,x4,y5,y6,y7,y8,y9]:=blk_set h4 4 _
 have h6:NdB ((((((w.setCell ⟨g,0,none⟩ x0).setCell ⟨g,1,none⟩ x1).setCell ⟨g,2,none⟩ x2).setCell ⟨g,3,none⟩ x3).setCell ⟨g,4,none⟩ x4).setCell ⟨g,5,none⟩ x5) g [x0,x1,x2,x3,x4,x5,y6,y7,y8,y9]:=blk_set h5 5 _
 have h7:NdB (((((((w.setCell ⟨g,0,none⟩ x0).setCell ⟨g,1,none⟩ x1).setCell ⟨g,2,none⟩ x2).setCell ⟨g,3,none⟩ x3).setCell ⟨g,4,none⟩ x4).setCell ⟨g,5,none⟩ x5).setCell ⟨g,6,none⟩ x6) g [x0,x1,x2,x3,x4,x5,x6,y7,y8,y9]:=blk_set h6 6 _
 have h8:NdB ((((((((w.setCell ⟨g,0,none⟩ x0).setCell ⟨g,1,none⟩ x1).setCell ⟨g,2,none⟩ x2).setCell ⟨g,3,none⟩ x3).setCell ⟨g,4,none⟩ x4).setCell ⟨g,5,none⟩ x5).setCell ⟨g,6,none⟩ x6).setCell ⟨g,7,none⟩ x7) g [x0,x1,x2,x3,x4,x5,x6,x7,y8,y9]:=blk_set h7 7 _
 have h9:NdB (((((((((w.setCell ⟨g,0,none⟩ x0).setCell ⟨g,1,none⟩ x1).setCell ⟨g,2,none⟩ x2).setCell ⟨g,3,none⟩ x3).setCell ⟨g,4,none⟩ x4).setCell ⟨g,5,none⟩ x5).setCell ⟨g,6,none⟩ x6).setCell ⟨g,7,none⟩ x7).setCell ⟨g,8,none⟩ x8) g [x0,x1,x2,x3,x4,x5,x6,x7,x8,y9]:=blk_set h8 8 _
 have h10:NdB ((((((((((w.setCell ⟨g,0,none⟩ x0).setCell ⟨g,1,none⟩ x1).setCell ⟨g,2,none⟩ x2).setCell ⟨g,3,none⟩ x3).setCell ⟨g,4,none⟩ x4).setCell ⟨g,5,none⟩ x5).setCell ⟨g,6,none⟩ x6).setCell ⟨g,7,none⟩ x7).setCell ⟨g,8,none⟩ x8).setCell ⟨g,9,none⟩ x9) g [x0,x1,x2,x3,x4,x5,x6,x7,x8,x9]:=blk_set h9 9 _
 exact h10
theorem putN_below {w0 w:World} {g base:Nat} (h:Below base w0 w) (hg:base<=g) (x0 x1 x2 x3 x4 x5 x6 x7 x8 x9:Value):Below base w0 (putN w g x0 x1 x2 x3 x4 x5 x6 x7 x8 x9):=
 Below.setCell (Below.setCell (Below.setCell (Below.setCell (Below.setCell (Below.setCell (Below.setCell (Below.setCell (Below.setCell (Below.setCell h hg _) hg _) hg _) hg _) hg _) hg _) hg _) hg _) hg _) hg _
theorem putN_far {w:World} {g k:Nat} (hne:k≠g) (x0 x1 x2 x3 x4 x5 x6 x7 x8 x9:Value):(putN w g x0 x1 x2 x3 x4 x5 x6 x7 x8 x9).heap[k]? = w.heap[k]? := by
 unfold putN
 rw [Below.heap_setCell _ ⟨g,9,none⟩ _ k hne,Below.heap_setCell _ ⟨g,8,none⟩ _ k hne,Below.heap_setCell _ ⟨g,7,none⟩ _ k hne,Below.heap_setCell _ ⟨g,6,none⟩ _ k hne,Below.heap_setCell _ ⟨g,5,none⟩ _ k hne,Below.heap_setCell _ ⟨g,4,none⟩ _ k hne,Below.heap_setCell _ ⟨g,3,none⟩ _ k hne,Below.heap_setCell _ ⟨g,2,none⟩ _ k hne,Below.heap_setCell _ ⟨g,1,none⟩ _ k hne,Below.heap_setCell _ ⟨g,0,none⟩ _ k hne]
theorem NdB.cells {w:World} {g:Nat} {y0 y1 y2 y3 y4 y5 y6 y7 y8 y9:Value} (h:NdB w g [y0,y1,y2,y3,y4,y5,y6,y7,y8,y9]):w.cell? ⟨g,0,none⟩=some y0/\w.cell? ⟨g,1,none⟩=some y1/\w.cell? ⟨g,2,none⟩=some y2/\w.cell? ⟨g,3,none⟩=some y3/\w.cell? ⟨g,4,none⟩=some y4/\w.cell? ⟨g,5,none⟩=some y5/\w.cell? ⟨g,6,none⟩=some y6/\w.cell? ⟨g,7,none⟩=some y7/\w.cell? ⟨g,8,none⟩=some y8/\w.cell? ⟨g,9,none⟩=some y9:=
 ⟨blk_cell h 0,blk_cell h 1,blk_cell h 2,blk_cell h 3,blk_cell h 4,blk_cell h 5,blk_cell h 6,blk_cell h 7,blk_cell h 8,blk_cell h 9⟩
theorem NdB.frozen {w:World} {g:Nat} {r:List Value} (h:NdB w g r):w.frozen? ⟨g,0,none⟩=false/\w.frozen? ⟨g,1,none⟩=false/\w.frozen? ⟨g,2,none⟩=false/\w.frozen? ⟨g,3,none⟩=false/\w.frozen? ⟨g,4,none⟩=false/\w.frozen? ⟨g,5,none⟩=false/\w.frozen? ⟨g,6,none⟩=false/\w.frozen? ⟨g,7,none⟩=false/\w.frozen? ⟨g,8,none⟩=false/\w.frozen? ⟨g,9,none⟩=false:=
 ⟨blk_frozen h 0,blk_frozen h 1,blk_frozen h 2,blk_frozen h 3,blk_frozen h 4,blk_frozen h 5,blk_frozen h 6,blk_frozen h 7,blk_frozen h 8,blk_frozen h 9⟩
def zeroR:List Value:=[.bool false,.slice none 0 0,.slice none 0 0,.int .i64 0,.int .i64 0,.slice none 0 0,.int .i64 0,.int .i64 0,.int .i64 0,.slice none 0 0]
set_option maxRecDepth 100000 in
theorem results_nodeA (W:World) (g:Nat) {y0 y1 y2 y3 y4 y5 y6 y7 y8 y9:Value} (b:Bool) (h:NdB W g [y0,y1,y2,y3,y4,y5,y6,y7,y8,y9]) (tm:Array Value) (h4:tm[4]?.getD undef = .pointer (some ⟨g,0,none⟩)) (h5:tm[5]?.getD undef = .bool b):(results Tryd.f17 tm).run Tryd.prog W = .ok (.tuple #[.agg #[y0,y1,y2,y3,y4,y5,y6,y7,y8,y9],.bool b]) W:=by
 obtain ⟨c0,c1,c2,c3,c4,c5,c6,c7,c8,c9⟩:=h.cells
 simp [results,Tryd.results17,go_sem,h4,h5,c0,c1,c2,c3,c4,c5,c6,c7,c8,c9]
def NodeV (w':World) (Y:Nat->Prop) (o:Option Nd) (e:Ending):Prop:=match o with
 | none=>e = .returned (.tuple #[.agg zeroR.toArray,.bool false])
 | some n=>∃(A1 A2 A5 A9:Option Addr) (c1 c2 c5 c9:Nat),e = .returned (.tuple #[.agg #[.bool n.f0,.slice A1 n.f1.length c1,.slice A2 n.f2.length c2,.int .i64 n.f3,.int .i64 n.f4,.slice A5 n.f5.length c5,.int .i64 n.f6,.int .i64 n.f7,.int .i64 n.f8,.slice A9 n.f9.length c9],.bool true])/\
   BX w' Y (.slice A1 n.f1.length c1) n.f1/\BX w' Y (.slice A2 n.f2.length c2) n.f2/\BX w' Y (.slice A5 n.f5.length c5) n.f5/\BX w' Y (.slice A9 n.f9.length c9) n.f9
def NdLen (n:Nd):Prop:=n.f1.length<=65535/\n.f2.length<=65535/\n.f5.length<=65535/\n.f9.length<=65535
set_option maxHeartbeats 8000000 in
set_option maxRecDepth 100000 in
theorem nodeA_calls {w:World} {base p:Nat} {size room:Int} {vc vf:Value} {X:Nat->Prop} {cs:Cs} (h:ArenaM w base p size room vc vf X cs) (i:Int) (hlen : ∀n,nodeAt cs i=some n->NdLen n):
 Calls Tryd.prog 17 #[.pointer (some ⟨p,0,none⟩),.int .i64 i] w fun e w'=>NodeV w' (fun k=>X k\/w.heap.size<=k) (nodeAt cs i) e/\Below w.heap.size w w':=by
 have HM:=z_ h
 have HLEN:=z_ hlen
 clear h hlen
 go_enter Tryd.func17,Tryd.ntmps17
 go_wp2_with fail
 obtain ⟨W1,hW1⟩ : ∃W1,W1=w.alloc (.cells zeroR.toArray 39):=⟨_,rfl⟩
 change Calls _ _ _ (w.alloc (.cells zeroR.toArray 39)) _
 rw [<-hW1]
 have hB1:Below w.heap.size w W1:=by rw [hW1];exact below_alloc (Below.refl _ _) _
 have h4:NdB W1 w.heap.size zeroR:=by rw [hW1];exact heap_alloc_new w _
 have hq1:w.heap.size<W1.heap.size:=blk_lt h4
 have HM1:=z_ (HM.out.below hB1)
 have HB1:=z_ hB1
 obtain ⟨q,hq⟩ : ∃q,q=w.heap.size:=⟨_,rfl⟩
 rw [<-hq] at h4
 rw [<-hq]
 have H4:=z_ h4
 have HQ:=z_ hq
 have HSEP:=z_ (show ∀k,X k->k<w.heap.size from fun k hk=>by
  obtain ⟨rows,fr,hv⟩:=HM.out.mem
  exact (hv.sep k hk).1)
 clear hW1 hB1 h4 hq hq1
 refine (atA_calls HM1.out i).mono ?_
 rintro e w' ⟨⟨v,rfl,hv⟩,rfl⟩
 cases ho:nodeAt cs i with
 | none=>
   rw [ho] at hv
   obtain rfl:v = .pointer none:=hv
   have HO:=z_ ho
   clear ho
   obtain ⟨z0,z1,z2,z3,z4,z5,z6,z7,z8,z9⟩:=NdB.cells H4.out
   obtain ⟨f0,f1,f2,f3,f4,f5,f6,f7,f8,f9⟩:=H4.out.frozen
   go_wp2_with fail
   refine bodyPost_ret (results_nodeA _ q false (putN_nd H4.out _ _ _ _ _ _ _ _ _ _) _ rfl rfl) rfl ⟨?_,putN_below HB1.out (by rw [HQ.out];exact Nat.le_refl _) _ _ _ _ _ _ _ _ _ _⟩
   rw [HO.out]
   rfl
 | some n=>
   rw [ho] at hv
   obtain ⟨g,d,r,rfl,⟨A1,A2,A5,A9,c1,c2,c5,c9,hr,b1,b2,b5,b9⟩,hc⟩:=hv
   subst hr
   have n0:=hc 0 _ rfl
   have n1:=hc 1 _ rfl
   have n2:=hc 2 _ rfl
   have n3:=hc 3 _ rfl
   have n4:=hc 4 _ rfl
   have n5:=hc 5 _ rfl
   have n6:=hc 6 _ rfl
   have n7:=hc 7 _ rfl
   have n8:=hc 8 _ rfl
   have n9:=hc 9 _ rfl
   simp only [Nat.add_zero] at n0
   have HLN:=z_ (HLEN.out n ho)
   have HO:=z_ ho
   have HBs:=z_ (And.intro b1 (And.intro b2 (And.intro b5 b9)))
   clear hc b1 b2 b5 b9 ho
   go_wp2_with fail
   obtain ⟨b,hb⟩ : ∃b,b=W1.heap.size:=⟨_,rfl⟩
   obtain ⟨W2,hW2⟩ : ∃W2,W2=W1.alloc (.cells #[.bool n.f0,.slice A1 n.f1.length c1,.slice A2 n.f2.length c2,.int .i64 n.f3,.int .i64 n.f4,.slice A5 n.f5.length c5,.int .i64 n.f6,.int .i64 n.f7,.int .i64 n.f8,.slice A9 n.f9.length c9] 39):=⟨_,rfl⟩
   rw [<-hb,<-hW2]
   have hB2:Below W1.heap.size W1 W2:=by rw [hW2];exact below_alloc (Below.refl _ _) _
   have hN2:NdB W2 b [.bool n.f0,.slice A1 n.f1.length c1,.slice A2 n.f2.length c2,.int .i64 n.f3,.int .i64 n.f4,.slice A5 n.f5.length c5,.int .i64 n.f6,.int .i64 n.f7,.int .i64 n.f8,.slice A9 n.f9.length c9]:=by rw [hW2,hb];exact heap_alloc_new W1 _
   have hqb:q<b:=by rw [hb];exact blk_lt H4.out
   obtain ⟨F,hF⟩ : ∃F:Nat->Prop,F=fun k=>(X k\/w.heap.size<=k)/\k≠b/\k≠q:=⟨_,rfl⟩
   have HQB:=z_ (show q≠b by omega)
   have HBB:=z_ (show w.heap.size<=b by have:=HB1.out.size;omega)
   have HFB:=z_ (show (∀k,F k->k≠b)/\∀k,w.heap.size<=k/\b<k/\q<k->F k from ⟨fun k hk=>by rw [hF] at hk;exact hk.2.1,fun k hk=>by rw [hF];exact ⟨.inr hk.1,by omega,by omega⟩⟩)
   have HFQ:=z_ (show ∀k,F k->k≠q from fun k hk=>by rw [hF] at hk;exact hk.2.2)
   have HFX:=z_ (show ∀k,F k->X k\/w.heap.size<=k from fun k hk=>by rw [hF] at hk;exact hk.1)
   have hXF : ∀k,X k->F k:=fun k hk=>by
    have:=HSEP.out k hk
    have:=HQ.out
    have:=HB1.out.size
    rw [hF]
    exact ⟨.inl hk,by omega,by omega⟩
   have HND:=z_ hN2
   have HF1:=z_ (Kd.V_mono (Kd.V_below HBs.out.1 hB2) hXF)
   have HF2:=z_ (Kd.V_mono (Kd.V_below HBs.out.2.1 hB2) hXF)
   have HF5:=z_ (Kd.V_mono (Kd.V_below HBs.out.2.2.1 hB2) hXF)
   have HF9:=z_ (Kd.V_mono (Kd.V_below HBs.out.2.2.2 hB2) hXF)
   have HZ:=z_ (H4.out.below hB2)
   have HB:=z_ (below_step HB1.out hB2)
   clear hN2 hB2 hW2 hb hF hXF HBs hqb n0 n1 n2 n3 n4 n5 n6 n7 n8 n9
   go_loopw [24] (fun v24 wr=>∃(k:Nat) (A1 A2 A5 A9:Option Addr) (c1 c2 c5 c9:Nat),k<=4/\v24 = .int .i64 (k:Int)/\Aside0 (NdB wr b [.bool n.f0,.slice A1 n.f1.length c1,.slice A2 n.f2.length c2,.int .i64 n.f3,.int .i64 n.f4,.slice A5 n.f5.length c5,.int .i64 n.f6,.int .i64 n.f7,.int .i64 n.f8,.slice A9 n.f9.length c9])/\Aside0 (BX wr F (.slice A1 n.f1.length c1) n.f1)/\Aside0 (BX wr F (.slice A2 n.f2.length c2) n.f2)/\Aside0 (BX wr F (.slice A5 n.f5.length c5) n.f5)/\Aside0 (BX wr F (.slice A9 n.f9.length c9) n.f9)/\Aside0 (NdB wr q zeroR)/\Aside0 (Below w.heap.size w wr)) (fun v24 _=>4-(intOf v24).toNat)
   case atStart=>exact ⟨0,A1,A2,A5,A9,c1,c2,c5,c9,by omega,rfl,HND,HF1,HF2,HF5,HF9,HZ,HB⟩
   case round=>
    clear HND HF1 HF2 HF5 HF9 HZ HB
    obtain ⟨k,A1,A2,A5,A9,c1,c2,c5,c9,hk,rfl,HND,HF1,HF2,HF5,HF9,HZ,HB⟩:=hrel
    obtain ⟨n0,n1,n2,n3,n4,n5,n6,n7,n8,n9⟩:=NdB.cells HND.out
    by_cases hlt:k<4
    ·obtain rfl|rfl|rfl|rfl:k=0\/k=1\/k=2\/k=3:=by omega
     ·go_wp2_with ((first|rw [index0_run]|rw [index1_run]|rw [index2_run]|rw [index3_run]);go_upon)
      refine (slices_Clone_byte_byte.calls A1 c1 n.f1 n.f1 wr (Kd.V_reads' HF1.out).2.2 (Kd.V_reads' HF1.out).2.1 (if_pos (by have:=HLN.out;unfold NdLen at this;omega))).mono ?_
      rintro e w3 ⟨v,rfl,hV,hB2⟩
      obtain ⟨B,d,rfl⟩:=Kd.R_slice hV
      have hn2:=HND.out.below hB2
      have hf:=blk_frozen hn2 1
      have hcj:=blk_cell hn2 1
      simp at hcj
      have HN2:=z_ hn2
      have HV:=z_ hV
      have HB2:=z_ hB2
      clear hn2 hV hB2
      go_wp2_with fail
      have b1:=HF1.out
      have b2:=HF2.out
      have b5:=HF5.out
      have b9:=HF9.out
      have hV:=HV.out
      have hB2:=HB2.out
      have hfb : ∀k,F k->k≠b:=HFB.out.1
      have hFN : ∀k,wr.heap.size<=k->F k:=fun k hk=>HFB.out.2 k (by have:=HB.out.size;have:=blk_lt HND.out;have:=blk_lt HZ.out;omega)
      go_roundw
      case measure=>simp [intOf]
      case rel=>exact ⟨1,B,A2,A5,A9,d,c2,c5,c9,by omega,rfl,⟨blk_set HN2.out 1 _⟩,⟨(Kd.V_far (p:=⟨b,1,none⟩) (Kd.V_mono (Kd.R_V (Kd.R_bound hV)) (fun k hk=>hFN k hk.2.1)) hfb _)⟩,⟨(Kd.V_far (p:=⟨b,1,none⟩) (Kd.V_below b2 hB2) hfb _)⟩,⟨(Kd.V_far (p:=⟨b,1,none⟩) (Kd.V_below b5 hB2) hfb _)⟩,⟨(Kd.V_far (p:=⟨b,1,none⟩) (Kd.V_below b9 hB2) hfb _)⟩,⟨(blk_far (HZ.out.below hB2) (p:=⟨b,1,none⟩) HQB.out _)⟩,⟨Below.setCell (below_step HB.out hB2) (by have:=HBB.out;show w.heap.size<=b;omega) _⟩⟩
     ·go_wp2_with ((first|rw [index0_run]|rw [index1_run]|rw [index2_run]|rw [index3_run]);go_upon)
      refine (slices_Clone_byte_byte.calls A2 c2 n.f2 n.f2 wr (Kd.V_reads' HF2.out).2.2 (Kd.V_reads' HF2.out).2.1 (if_pos (by have:=HLN.out;unfold NdLen at this;omega))).mono ?_
      rintro e w3 ⟨v,rfl,hV,hB2⟩
      obtain ⟨B,d,rfl⟩:=Kd.R_slice hV
      have hn2:=HND.out.below hB2
      have hf:=blk_frozen hn2 2
      have hcj:=blk_cell hn2 2
      simp at hcj
      have HN2:=z_ hn2
      have HV:=z_ hV
      have HB2:=z_ hB2
      clear hn2 hV hB2
      go_wp2_with fail
      have b1:=HF1.out
      have b2:=HF2.out
      have b5:=HF5.out
      have b9:=HF9.out
      have hV:=HV.out
      have hB2:=HB2.out
      have hfb : ∀k,F k->k≠b:=HFB.out.1
      have hFN : ∀k,wr.heap.size<=k->F k:=fun k hk=>HFB.out.2 k (by have:=HB.out.size;have:=blk_lt HND.out;have:=blk_lt HZ.out;omega)
      go_roundw
      case measure=>simp [intOf]
      case rel=>exact ⟨2,A1,B,A5,A9,c1,d,c5,c9,by omega,rfl,⟨blk_set HN2.out 2 _⟩,⟨(Kd.V_far (p:=⟨b,2,none⟩) (Kd.V_below b1 hB2) hfb _)⟩,⟨(Kd.V_far (p:=⟨b,2,none⟩) (Kd.V_mono (Kd.R_V (Kd.R_bound hV)) (fun k hk=>hFN k hk.2.1)) hfb _)⟩,⟨(Kd.V_far (p:=⟨b,2,none⟩) (Kd.V_below b5 hB2) hfb _)⟩,⟨(Kd.V_far (p:=⟨b,2,none⟩) (Kd.V_below b9 hB2) hfb _)⟩,⟨(blk_far (HZ.out.below hB2) (p:=⟨b,2,none⟩) HQB.out _)⟩,⟨Below.setCell (below_step HB.out hB2) (by have:=HBB.out;show w.heap.size<=b;omega) _⟩⟩
     ·go_wp2_with ((first|rw [index0_run]|rw [index1_run]|rw [index2_run]|rw [index3_run]);go_upon)
      refine (slices_Clone_byte_byte.calls A5 c5 n.f5 n.f5 wr (Kd.V_reads' HF5.out).2.2 (Kd.V_reads' HF5.out).2.1 (if_pos (by have:=HLN.out;unfold NdLen at this;omega))).mono ?_
      rintro e w3 ⟨v,rfl,hV,hB2⟩
      obtain ⟨B,d,rfl⟩:=Kd.R_slice hV
      have hn2:=HND.out.below hB2
      have hf:=blk_frozen hn2 5
      have hcj:=blk_cell hn2 5
      simp at hcj
      have HN2:=z_ hn2
      have HV:=z_ hV
      have HB2:=z_ hB2
      clear hn2 hV hB2
      go_wp2_with fail
      have b1:=HF1.out
      have b2:=HF2.out
      have b5:=HF5.out
      have b9:=HF9.out
      have hV:=HV.out
      have hB2:=HB2.out
      have hfb : ∀k,F k->k≠b:=HFB.out.1
      have hFN : ∀k,wr.heap.size<=k->F k:=fun k hk=>HFB.out.2 k (by have:=HB.out.size;have:=blk_lt HND.out;have:=blk_lt HZ.out;omega)
      go_roundw
      case measure=>simp [intOf]
      case rel=>exact ⟨3,A1,A2,B,A9,c1,c2,d,c9,by omega,rfl,⟨blk_set HN2.out 5 _⟩,⟨(Kd.V_far (p:=⟨b,5,none⟩) (Kd.V_below b1 hB2) hfb _)⟩,⟨(Kd.V_far (p:=⟨b,5,none⟩) (Kd.V_below b2 hB2) hfb _)⟩,⟨(Kd.V_far (p:=⟨b,5,none⟩) (Kd.V_mono (Kd.R_V (Kd.R_bound hV)) (fun k hk=>hFN k hk.2.1)) hfb _)⟩,⟨(Kd.V_far (p:=⟨b,5,none⟩) (Kd.V_below b9 hB2) hfb _)⟩,⟨(blk_far (HZ.out.below hB2) (p:=⟨b,5,none⟩) HQB.out _)⟩,⟨Below.setCell (below_step HB.out hB2) (by have:=HBB.out;show w.heap.size<=b;omega) _⟩⟩
     ·go_wp2_with ((first|rw [index0_run]|rw [index1_run]|rw [index2_run]|rw [index3_run]);go_upon)
      refine (slices_Clone_byte_byte.calls A9 c9 n.f9 n.f9 wr (Kd.V_reads' HF9.out).2.2 (Kd.V_reads' HF9.out).2.1 (if_pos (by have:=HLN.out;unfold NdLen at this;omega))).mono ?_
      rintro e w3 ⟨v,rfl,hV,hB2⟩
      obtain ⟨B,d,rfl⟩:=Kd.R_slice hV
      have hn2:=HND.out.below hB2
      have hf:=blk_frozen hn2 9
      have hcj:=blk_cell hn2 9
      simp at hcj
      have HN2:=z_ hn2
      have HV:=z_ hV
      have HB2:=z_ hB2
      clear hn2 hV hB2
      go_wp2_with fail
      have b1:=HF1.out
      have b2:=HF2.out
      have b5:=HF5.out
      have b9:=HF9.out
      have hV:=HV.out
      have hB2:=HB2.out
      have hfb : ∀k,F k->k≠b:=HFB.out.1
      have hFN : ∀k,wr.heap.size<=k->F k:=fun k hk=>HFB.out.2 k (by have:=HB.out.size;have:=blk_lt HND.out;have:=blk_lt HZ.out;omega)
      go_roundw
      case measure=>simp [intOf]
      case rel=>exact ⟨4,A1,A2,A5,B,c1,c2,c5,d,by omega,rfl,⟨blk_set HN2.out 9 _⟩,⟨(Kd.V_far (p:=⟨b,9,none⟩) (Kd.V_below b1 hB2) hfb _)⟩,⟨(Kd.V_far (p:=⟨b,9,none⟩) (Kd.V_below b2 hB2) hfb _)⟩,⟨(Kd.V_far (p:=⟨b,9,none⟩) (Kd.V_below b5 hB2) hfb _)⟩,⟨(Kd.V_far (p:=⟨b,9,none⟩) (Kd.V_mono (Kd.R_V (Kd.R_bound hV)) (fun k hk=>hFN k hk.2.1)) hfb _)⟩,⟨(blk_far (HZ.out.below hB2) (p:=⟨b,9,none⟩) HQB.out _)⟩,⟨Below.setCell (below_step HB.out hB2) (by have:=HBB.out;show w.heap.size<=b;omega) _⟩⟩
    ·obtain rfl:k=4:=by omega
     obtain ⟨f0,f1,f2,f3,f4,f5,f6,f7,f8,f9⟩:=HZ.out.frozen
     obtain ⟨z0,z1,z2,z3,z4,z5,z6,z7,z8,z9⟩:=NdB.cells HZ.out
     go_wp2_with fail
     refine bodyPost_ret (results_nodeA _ q true (putN_nd HZ.out _ _ _ _ _ _ _ _ _ _) _ rfl rfl) rfl ⟨?_,putN_below HB.out (by rw [HQ.out];exact Nat.le_refl _) _ _ _ _ _ _ _ _ _ _⟩
     rw [HO.out]
     have hY : ∀(v:Value) (l:List Int),BX wr F v l->BX (putN wr q (.bool n.f0) (.slice A1 n.f1.length c1) (.slice A2 n.f2.length c2) (.int .i64 n.f3) (.int .i64 n.f4) (.slice A5 n.f5.length c5) (.int .i64 n.f6) (.int .i64 n.f7) (.int .i64 n.f8) (.slice A9 n.f9.length c9)) (fun k=>X k\/w.heap.size<=k) v l:=fun v l hv=>
      Kd.V_mono (Kd.V_step hv (fun k hk _=>putN_far (HFQ.out k hk) _ _ _ _ _ _ _ _ _ _)) HFX.out
     exact ⟨A1,A2,A5,A9,c1,c2,c5,c9,rfl,hY _ _ HF1.out,hY _ _ HF2.out,hY _ _ HF5.out,hY _ _ HF9.out⟩
end Go.Proofs.YtdeneoknjeegbaaDoor.P
end
