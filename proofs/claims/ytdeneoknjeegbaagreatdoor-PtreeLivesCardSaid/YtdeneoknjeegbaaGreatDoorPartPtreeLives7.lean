/- Lemmas of this claim, part 7. -/
import Derived.Test.YtdeneoknjeegbaaGreatDoorPartPtreeLives6
import Derived.BigRegion
set_option linter.unusedVariables false
set_option linter.unusedSimpArgs false
section
namespace Go.Proofs.YtdeneoknjeegbaaGreatDoor.P
open Go.RowKit YtdeneoknjeegbaaGreatDoor.Pure YtdeneoknjeegbaaGreatDoorW.PrintWords YtdeneoknjeegbaaGreatDoorW.PrintLast YtdeneoknjeegbaaGreatDoorW.PrintMore
def hashAt (size:Int) (cs:Cs) (i:Int):List Int:=match nodeAt cs i with
 | some n=>n.f9
 | none=>if i = -1 then hashB size 0 [] else []
theorem blkA {w:World} {base p:Nat} {size room:Int} {vc vf:Value} {X:Nat->Prop} {cs:Cs} (h:ArenaM w base p size room vc vf X cs):ABlk w p size room vc vf:=by
 obtain ⟨rows,fr,hv⟩:=h.mem
 exact hv.blk
theorem hash0_f (size:Int):texts_Hash.f 5 size 0 []=some (hashB size 0 []):=hash_f size 0 [] (by omega) (by simp) 5 (by simp)
set_option maxHeartbeats 4000000 in
set_option maxRecDepth 100000 in
theorem hashA_calls {w:World} {base p:Nat} {size room:Int} {vc vf:Value} {X:Nat->Prop} {cs:Cs} (h:ArenaM w base p size room vc vf X cs) (i:Int) (hlen : ∀n,nodeAt cs i=some n->n.f9.length<=65535) (hGS:GlobS w):
 Calls Tryz.prog 19 #[.pointer (some ⟨p,0,none⟩),.int .i64 i] w fun e w'=>(∃v,e = .returned v/\BX w' (fun k=>w.heap.size<=k) v (hashAt size cs i))/\Below w.heap.size w w':=by
 have HBk:=z_ (blkA h)
 have HS:=z_ (show size≠0 by have:=h.hs;omega)
 have HM:=z_ h
 have HGS:=z_ hGS
 have HLEN:=z_ hlen
 clear h hGS hlen
 go_enter Tryz.func19,Tryz.ntmps19
 go_wp2_with fail
 refine (none_calls HBk.out HS.out).mono ?_
 rintro e w' ⟨rfl,rfl⟩
 go_wp2_with fail
 refine (atA_calls HM.out i).mono ?_
 rintro e w' ⟨⟨v,rfl,hv⟩,rfl⟩
 cases ho:nodeAt cs i with
 | none=>
   rw [ho] at hv
   obtain rfl:v = .pointer none:=hv
   by_cases hi:i = -1
   ·have HR:=z_ (show hashAt size cs i=hashB size 0 [] by unfold hashAt;rw [ho];exact if_pos hi)
    have hib:(i== -1)=true:=by simpa using hi
    clear ho hi
    obtain ⟨k0,k1,k2,k3⟩:=HBk.out.cells
    go_wp2_with fail
    refine (texts_Hash.calls 5 size 0 none 0 [] (hashB size 0 []) w (Kd.C_nil _ _) (Nat.le_refl _) HGS.out (hash0_f size)).mono ?_
    rintro e w1 ⟨v,rfl,hV,hB⟩
    have HV:=z_ hV
    have HB:=z_ hB
    clear hV hB
    go_wp2_with fail
    go_ret
    rw [HR.out]
    exact ⟨⟨_,rfl,HV.out⟩,HB.out⟩
   ·have HR:=z_ (show hashAt size cs i = [] by unfold hashAt;rw [ho];exact if_neg hi)
    have hib:(i== -1)=false:=by simpa using hi
    clear ho hi
    go_wp2_with fail
    go_ret
    rw [HR.out]
    exact ⟨⟨_,rfl,Kd.V_nil _ _ _ _ _⟩,Below.refl _ _⟩
 | some n=>
   rw [ho] at hv
   obtain ⟨g,d,r,rfl,⟨A1,A2,A5,A9,c1,c2,c5,c9,hr,b1,b2,b5,b9⟩,hc⟩:=hv
   have hc9:=hc 9 (.slice A9 n.f9.length c9) (by rw [hr];rfl)
   have HR:=z_ (show hashAt size cs i=n.f9 by unfold hashAt;rw [ho])
   have HB9:=z_ b9
   have HL9:=z_ (HLEN.out n ho)
   clear hc hr b1 b2 b5 b9 ho
   go_wp2_with fail
   refine (slices_Clone_byte_byte.calls A9 c9 n.f9 n.f9 _ (Kd.V_reads' HB9.out).2.2 (Kd.V_reads' HB9.out).2.1 (if_pos (by have:=HL9.out;omega))).mono ?_
   rintro e w1 ⟨v,rfl,hV,hB⟩
   have HV:=z_ hV
   have HB:=z_ hB
   clear hV hB
   go_wp2_with fail
   go_ret
   rw [HR.out]
   exact ⟨⟨_,rfl,Kd.V_mono (Kd.R_V (Kd.R_bound HV.out)) (fun k hk=>hk.2.1)⟩,HB.out⟩
theorem index0_run (v0 v1 v2 v3:Value) (w:World):Sem.run Tryz.prog (Instr.index 109 (.agg #[v0,v1,v2,v3]) (.int .i64 0)) w = .ok v0 w:=by kernel_rfl
theorem index1_run (v0 v1 v2 v3:Value) (w:World):Sem.run Tryz.prog (Instr.index 109 (.agg #[v0,v1,v2,v3]) (.int .i64 1)) w = .ok v1 w:=by kernel_rfl
theorem index2_run (v0 v1 v2 v3:Value) (w:World):Sem.run Tryz.prog (Instr.index 109 (.agg #[v0,v1,v2,v3]) (.int .i64 2)) w = .ok v2 w:=by kernel_rfl
theorem index3_run (v0 v1 v2 v3:Value) (w:World):Sem.run Tryz.prog (Instr.index 109 (.agg #[v0,v1,v2,v3]) (.int .i64 3)) w = .ok v3 w:=by kernel_rfl
def NdB (w:World) (g:Nat) (r:List Value):Prop:=w.heap[g]? = some (.cells r.toArray 59 (0,0))
theorem NdB.below {w w1:World} {g:Nat} {r:List Value} (h:NdB w g r) (hb:Below w.heap.size w w1):NdB w1 g r:=blk_below h hb
def putN (w:World) (g:Nat) (x0 x1 x2 x3 x4 x5 x6 x7 x8 x9:Value):World:=((((((((((w.setCell ⟨g,0,none⟩ x0).setCell ⟨g,1,none⟩ x1).setCell ⟨g,2,none⟩ x2).setCell ⟨g,3,none⟩ x3).setCell ⟨g,4,none⟩ x4).setCell ⟨g,5,none⟩ x5).setCell ⟨g,6,none⟩ x6).setCell ⟨g,7,none⟩ x7).setCell ⟨g,8,none⟩ x8).setCell ⟨g,9,none⟩ x9)
theorem putN_nd {w:World} {g:Nat} {y0 y1 y2 y3 y4 y5 y6 y7 y8 y9:Value} (h:NdB w g [y0,y1,y2,y3,y4,y5,y6,y7,y8,y9]) (x0 x1 x2 x3 x4 x5 x6 x7 x8 x9:Value):NdB (putN w g x0 x1 x2 x3 x4 x5 x6 x7 x8 x9) g [x0,x1,x2,x3,x4,x5,x6,x7,x8,x9]:=by
 have h1:NdB (w.setCell ⟨g,0,none⟩ x0) g [x0,y1,y2,y3,y4,y5,y6,y7,y8,y9]:=blk_set h 0 _
 have h2:NdB ((w.setCell ⟨g,0,none⟩ x0).setCell ⟨g,1,none⟩ x1) g [x0,x1,y2,y3,y4,y5,y6,y7,y8,y9]:=blk_set h1 1 _
 have h3:NdB (((w.setCell ⟨g,0,none⟩ x0).setCell ⟨g,1,none⟩ x1).setCell ⟨g,2,none⟩ x2) g [x0,x1,x2,y3,y4,y5,y6,y7,y8,y9]:=blk_set h2 2 _
 have h4:NdB ((((w.setCell ⟨g,0,none⟩ x0).setCell ⟨g,1,none⟩ x1).setCell ⟨g,2,none⟩ x2).setCell ⟨g,3,none⟩ x3) g [x0,x1,x2,x3,y4,y5,y6,y7,y8,y9]:=blk_set h3 3 _
 have h5:NdB (((((w.setCell ⟨g,0,none⟩ x0).setCell ⟨g,1,none⟩ x1).setCell ⟨g,2,none⟩ x2).setCell ⟨g,3,none⟩ x3).setCell ⟨g,4,none⟩ x4) g [x0,x1,x2,x3,x4,y5,y6,y7,y8,y9]:=blk_set h4 4 _
 have h6:NdB ((((((w.setCell ⟨g,0,none⟩ x0).setCell ⟨g,1,none⟩ x1).setCell ⟨g,2,none⟩ x2).setCell ⟨g,3,none⟩ x3).setCell ⟨g,4,none⟩ x4).setCell ⟨g,5,none⟩ x5) g [x0,x1,x2,x3,x4,x5,y6,y7,y8,y9]:=blk_set h5 5 _
 have h7:NdB (((((((w.setCell ⟨g,0,none⟩ x0).setCell ⟨g,1,none⟩ x1).setCell ⟨g,2,none⟩ x2).setCell ⟨g,3,none⟩ x3).setCell ⟨g,4,none⟩ x4).setCell ⟨g,5,none⟩ x5).setCell ⟨g,6,none⟩ x6) g [x0,x1,x2,x3,x4,x5,x6,y7,y8,y9]:=blk_set h6 6 _
 have h8:NdB ((((((((w.setCell ⟨g,0,none⟩ x0).setCell ⟨g,1,none⟩ x1).setCell ⟨g,2,none⟩ x2).setCell ⟨g,3,none⟩ x3).setCell ⟨g,4,none⟩ x4).setCell ⟨g,5,none⟩ x5).setCell ⟨g,6,none⟩ x6).setCell ⟨g,7,none⟩ x7) g [x0,x1,x2,x3,x4,x5,x6,x7,y8,y9]:=blk_set h7 7 _
 have h9:NdB (((((((((w.setCell ⟨g,0,none⟩ x0).setCell ⟨g,1,none⟩ x1).setCell ⟨g,2,none⟩ x2).setCell ⟨g,3,none⟩ x3).setCell ⟨g,4,none⟩ x4).setCell ⟨g,5,none⟩ x5).setCell ⟨g,6,none⟩ x6).setCell ⟨g,7,none⟩ x7).setCell ⟨g,8,none⟩ x8) g [x0,x1,x2,x3,x4,x5,x6,x7,x8,y9]:=blk_set h8 8 _
 have h10:NdB ((((((((((w.setCell ⟨g,0,none⟩ x0).setCell ⟨g,1,none⟩ x1).setCell ⟨g,2,none⟩ x2).setCell ⟨g,3,none⟩ x3).setCell ⟨g,4,none⟩ x4).setCell ⟨g,5,none⟩ x5).setCell ⟨g,6,none⟩ x6).setCell ⟨g,7,none⟩ x7).setCell ⟨g,8,none⟩ x8).setCell ⟨g,9,none⟩ x9) g [x0,x1,x2,x3,x4,x5,x6,x7,x8,x9]:=blk_set h9 9 _
 exact h10
theorem putN_below {w0 w:World} {g base:Nat} (h:Below base w0 w) (hg:base<=g) (x0 x1 x2 x3 x4 x5 x6 x7 x8 x9:Value):Below base w0 (putN w g x0 x1 x2 x3 x4 x5 x6 x7 x8 x9):=
 Below.setCell (Below.setCell (Below.setCell (Below.setCell (Below.setCell (Below.setCell (Below.setCell (Below.setCell (Below.setCell (Below.setCell h hg _) hg _) hg _) hg _) hg _) hg _) hg _) hg _) hg _) hg _
theorem putN_far {w:World} {g k:Nat} (hne:k≠g) (x0 x1 x2 x3 x4 x5 x6 x7 x8 x9:Value):(putN w g x0 x1 x2 x3 x4 x5 x6 x7 x8 x9).heap[k]? = w.heap[k]? := by
 unfold putN
 rw [Below.heap_setCell _ ⟨g,9,none⟩ _ k hne,Below.heap_setCell _ ⟨g,8,none⟩ _ k hne,Below.heap_setCell _ ⟨g,7,none⟩ _ k hne,Below.heap_setCell _ ⟨g,6,none⟩ _ k hne,Below.heap_setCell _ ⟨g,5,none⟩ _ k hne,Below.heap_setCell _ ⟨g,4,none⟩ _ k hne,Below.heap_setCell _ ⟨g,3,none⟩ _ k hne,Below.heap_setCell _ ⟨g,2,none⟩ _ k hne,Below.heap_setCell _ ⟨g,1,none⟩ _ k hne,Below.heap_setCell _ ⟨g,0,none⟩ _ k hne]
theorem NdB.cells {w:World} {g:Nat} {y0 y1 y2 y3 y4 y5 y6 y7 y8 y9:Value} (h:NdB w g [y0,y1,y2,y3,y4,y5,y6,y7,y8,y9]):w.cell? ⟨g,0,none⟩=some y0/\w.cell? ⟨g,1,none⟩=some y1/\w.cell? ⟨g,2,none⟩=some y2/\w.cell? ⟨g,3,none⟩=some y3/\w.cell? ⟨g,4,none⟩=some y4/\w.cell? ⟨g,5,none⟩=some y5/\w.cell? ⟨g,6,none⟩=some y6/\w.cell? ⟨g,7,none⟩=some y7/\w.cell? ⟨g,8,none⟩=some y8/\w.cell? ⟨g,9,none⟩=some y9:=
 ⟨blk_cell h 0,blk_cell h 1,blk_cell h 2,blk_cell h 3,blk_cell h 4,blk_cell h 5,blk_cell h 6,blk_cell h 7,blk_cell h 8,blk_cell h 9⟩
theorem NdB.frozen {w:World} {g:Nat} {r:List Value} (h:NdB w g r):w.frozen? ⟨g,0,none⟩=false/\w.frozen? ⟨g,1,none⟩=false/\w.frozen? ⟨g,2,none⟩=false/\w.frozen? ⟨g,3,none⟩=false/\w.frozen? ⟨g,4,none⟩=false/\w.frozen? ⟨g,5,none⟩=false/\w.frozen? ⟨g,6,none⟩=false/\w.frozen? ⟨g,7,none⟩=false/\w.frozen? ⟨g,8,none⟩=false/\w.frozen? ⟨g,9,none⟩=false:=
 ⟨blk_frozen h 0,blk_frozen h 1,blk_frozen h 2,blk_frozen h 3,blk_frozen h 4,blk_frozen h 5,blk_frozen h 6,blk_frozen h 7,blk_frozen h 8,blk_frozen h 9⟩
def zeroR:List Value:=[.bool false,.slice none 0 0,.slice none 0 0,.int .i64 0,.int .i64 0,.slice none 0 0,.int .i64 0,.int .i64 0,.int .i64 0,.slice none 0 0]
set_option maxRecDepth 100000 in
theorem results_nodeA (W:World) (g:Nat) {y0 y1 y2 y3 y4 y5 y6 y7 y8 y9:Value} (b:Bool) (h:NdB W g [y0,y1,y2,y3,y4,y5,y6,y7,y8,y9]) (tm:Array Value) (h4:tm[4]?.getD undef = .pointer (some ⟨g,0,none⟩)) (h5:tm[5]?.getD undef = .bool b):(results Tryz.f51 tm).run Tryz.prog W = .ok (.tuple #[.agg #[y0,y1,y2,y3,y4,y5,y6,y7,y8,y9],.bool b]) W:=by
 obtain ⟨c0,c1,c2,c3,c4,c5,c6,c7,c8,c9⟩:=h.cells
 simp [results,Tryz.results51,go_sem,h4,h5,c0,c1,c2,c3,c4,c5,c6,c7,c8,c9]
def NodeV (w':World) (Y:Nat->Prop) (o:Option Nd) (e:Ending):Prop:=match o with
 | none=>e = .returned (.tuple #[.agg zeroR.toArray,.bool false])
 | some n=>∃(A1 A2 A5 A9:Option Addr) (c1 c2 c5 c9:Nat),e = .returned (.tuple #[.agg #[.bool n.f0,.slice A1 n.f1.length c1,.slice A2 n.f2.length c2,.int .i64 n.f3,.int .i64 n.f4,.slice A5 n.f5.length c5,.int .i64 n.f6,.int .i64 n.f7,.int .i64 n.f8,.slice A9 n.f9.length c9],.bool true])/\
   BX w' Y (.slice A1 n.f1.length c1) n.f1/\BX w' Y (.slice A2 n.f2.length c2) n.f2/\BX w' Y (.slice A5 n.f5.length c5) n.f5/\BX w' Y (.slice A9 n.f9.length c9) n.f9
def NdLen (n:Nd):Prop:=n.f1.length<=65535/\n.f2.length<=65535/\n.f5.length<=65535/\n.f9.length<=65535
set_option maxHeartbeats 8000000 in
set_option maxRecDepth 100000 in
theorem nodeA_calls {w:World} {base p:Nat} {size room:Int} {vc vf:Value} {X:Nat->Prop} {cs:Cs} (h:ArenaM w base p size room vc vf X cs) (i:Int) (hlen : ∀n,nodeAt cs i=some n->NdLen n):
 Calls Tryz.prog 51 #[.pointer (some ⟨p,0,none⟩),.int .i64 i] w fun e w'=>NodeV w' (fun k=>X k\/w.heap.size<=k) (nodeAt cs i) e/\Below w.heap.size w w':=by
 have HM:=z_ h
 have HLEN:=z_ hlen
 clear h hlen
 go_enter Tryz.func51,Tryz.ntmps51
 go_wp2_with fail
 obtain ⟨W1,hW1⟩ : ∃W1,W1=w.alloc (.cells zeroR.toArray 59):=⟨_,rfl⟩
 change Calls _ _ _ (w.alloc (.cells zeroR.toArray 59)) _
 rw [<-hW1]
 have hB1:Below w.heap.size w W1:=by rw [hW1];exact below_alloc (Below.refl _ _) _
 have h4:NdB W1 w.heap.size zeroR:=by rw [hW1];exact heap_alloc_new w _
 have hq1:w.heap.size<W1.heap.size:=blk_lt h4
 have HM1:=z_ (HM.out.below hB1)
 have HB1:=z_ hB1
 obtain ⟨q,hq⟩ : ∃q,q=w.heap.size:=⟨_,rfl⟩
 rw [<-hq] at h4
 rw [<-hq]
 have H4:=z_ h4
 have HQ:=z_ hq
 have HSEP:=z_ (show ∀k,X k->k<w.heap.size from fun k hk=>by
  obtain ⟨rows,fr,hv⟩:=HM.out.mem
  exact (hv.sep k hk).1)
 clear hW1 hB1 h4 hq hq1
 refine (atA_calls HM1.out i).mono ?_
 rintro e w' ⟨⟨v,rfl,hv⟩,rfl⟩
 cases ho:nodeAt cs i with
 | none=>
   rw [ho] at hv
   obtain rfl:v = .pointer none:=hv
   have HO:=z_ ho
   clear ho
   obtain ⟨z0,z1,z2,z3,z4,z5,z6,z7,z8,z9⟩:=NdB.cells H4.out
   obtain ⟨f0,f1,f2,f3,f4,f5,f6,f7,f8,f9⟩:=H4.out.frozen
   go_wp2_with fail
   refine bodyPost_ret (results_nodeA _ q false (putN_nd H4.out _ _ _ _ _ _ _ _ _ _) _ rfl rfl) rfl ⟨?_,putN_below HB1.out (by rw [HQ.out];exact Nat.le_refl _) _ _ _ _ _ _ _ _ _ _⟩
   rw [HO.out]
   rfl
 | some n=>
   rw [ho] at hv
   obtain ⟨g,d,r,rfl,⟨A1,A2,A5,A9,c1,c2,c5,c9,hr,b1,b2,b5,b9⟩,hc⟩:=hv
   subst hr
   have n0:=hc 0 _ rfl
   have n1:=hc 1 _ rfl
   have n2:=hc 2 _ rfl
   have n3:=hc 3 _ rfl
   have n4:=hc 4 _ rfl
   have n5:=hc 5 _ rfl
   have n6:=hc 6 _ rfl
   have n7:=hc 7 _ rfl
   have n8:=hc 8 _ rfl
   have n9:=hc 9 _ rfl
   simp only [Nat.add_zero] at n0
   have HLN:=z_ (HLEN.out n ho)
   have HO:=z_ ho
   have HBs:=z_ (And.intro b1 (And.intro b2 (And.intro b5 b9)))
   clear hc b1 b2 b5 b9 ho
   go_wp2_with fail
   obtain ⟨b,hb⟩ : ∃b,b=W1.heap.size:=⟨_,rfl⟩
   obtain ⟨W2,hW2⟩ : ∃W2,W2=W1.alloc (.cells #[.bool n.f0,.slice A1 n.f1.length c1,.slice A2 n.f2.length c2,.int .i64 n.f3,.int .i64 n.f4,.slice A5 n.f5.length c5,.int .i64 n.f6,.int .i64 n.f7,.int .i64 n.f8,.slice A9 n.f9.length c9] 59):=⟨_,rfl⟩
   rw [<-hb,<-hW2]
   have hB2:Below W1.heap.size W1 W2:=by rw [hW2];exact below_alloc (Below.refl _ _) _
   have hN2:NdB W2 b [.bool n.f0,.slice A1 n.f1.length c1,.slice A2 n.f2.length c2,.int .i64 n.f3,.int .i64 n.f4,.slice A5 n.f5.length c5,.int .i64 n.f6,.int .i64 n.f7,.int .i64 n.f8,.slice A9 n.f9.length c9]:=by rw [hW2,hb];exact heap_alloc_new W1 _
   have hqb:q<b:=by rw [hb];exact blk_lt H4.out
   obtain ⟨F,hF⟩ : ∃F:Nat->Prop,F=fun k=>(X k\/w.heap.size<=k)/\k≠b/\k≠q:=⟨_,rfl⟩
   have HQB:=z_ (show q≠b by omega)
   have HBB:=z_ (show w.heap.size<=b by have:=HB1.out.size;omega)
   have HFB:=z_ (show (∀k,F k->k≠b)/\∀k,w.heap.size<=k/\b<k/\q<k->F k from ⟨fun k hk=>by rw [hF] at hk;exact hk.2.1,fun k hk=>by rw [hF];exact ⟨.inr hk.1,by omega,by omega⟩⟩)
   have HFQ:=z_ (show ∀k,F k->k≠q from fun k hk=>by rw [hF] at hk;exact hk.2.2)
   have HFX:=z_ (show ∀k,F k->X k\/w.heap.size<=k from fun k hk=>by rw [hF] at hk;exact hk.1)
   have hXF : ∀k,X k->F k:=fun k hk=>by
    have:=HSEP.out k hk
    have:=HQ.out
    have:=HB1.out.size
    rw [hF]
    exact ⟨.inl hk,by omega,by omega⟩
   have HND:=z_ hN2
   have HF1:=z_ (Kd.V_mono (Kd.V_below HBs.out.1 hB2) hXF)
   have HF2:=z_ (Kd.V_mono (Kd.V_below HBs.out.2.1 hB2) hXF)
   have HF5:=z_ (Kd.V_mono (Kd.V_below HBs.out.2.2.1 hB2) hXF)
   have HF9:=z_ (Kd.V_mono (Kd.V_below HBs.out.2.2.2 hB2) hXF)
   have HZ:=z_ (H4.out.below hB2)
   have HB:=z_ (below_step HB1.out hB2)
   clear hN2 hB2 hW2 hb hF hXF HBs hqb n0 n1 n2 n3 n4 n5 n6 n7 n8 n9
   go_loopw [24] (fun v24 wr=>∃(k:Nat) (A1 A2 A5 A9:Option Addr) (c1 c2 c5 c9:Nat),k<=4/\v24 = .int .i64 (k:Int)/\Aside0 (NdB wr b [.bool n.f0,.slice A1 n.f1.length c1,.slice A2 n.f2.length c2,.int .i64 n.f3,.int .i64 n.f4,.slice A5 n.f5.length c5,.int .i64 n.f6,.int .i64 n.f7,.int .i64 n.f8,.slice A9 n.f9.length c9])/\Aside0 (BX wr F (.slice A1 n.f1.length c1) n.f1)/\Aside0 (BX wr F (.slice A2 n.f2.length c2) n.f2)/\Aside0 (BX wr F (.slice A5 n.f5.length c5) n.f5)/\Aside0 (BX wr F (.slice A9 n.f9.length c9) n.f9)/\Aside0 (NdB wr q zeroR)/\Aside0 (Below w.heap.size w wr)) (fun v24 _=>4-(intOf v24).toNat)
   case atStart=>exact ⟨0,A1,A2,A5,A9,c1,c2,c5,c9,by omega,rfl,HND,HF1,HF2,HF5,HF9,HZ,HB⟩
   case round=>
    clear HND HF1 HF2 HF5 HF9 HZ HB
    obtain ⟨k,A1,A2,A5,A9,c1,c2,c5,c9,hk,rfl,HND,HF1,HF2,HF5,HF9,HZ,HB⟩:=hrel
    obtain ⟨n0,n1,n2,n3,n4,n5,n6,n7,n8,n9⟩:=NdB.cells HND.out
    by_cases hlt:k<4
    ·obtain rfl|rfl|rfl|rfl:k=0\/k=1\/k=2\/k=3:=by omega
     ·go_wp2_with ((first|rw [index0_run]|rw [index1_run]|rw [index2_run]|rw [index3_run]);go_upon)
      refine (slices_Clone_byte_byte.calls A1 c1 n.f1 n.f1 wr (Kd.V_reads' HF1.out).2.2 (Kd.V_reads' HF1.out).2.1 (if_pos (by have:=HLN.out;unfold NdLen at this;omega))).mono ?_
      rintro e w3 ⟨v,rfl,hV,hB2⟩
      obtain ⟨B,d,rfl⟩:=Kd.R_slice hV
      have hn2:=HND.out.below hB2
      have hf:=blk_frozen hn2 1
      have hcj:=blk_cell hn2 1
      simp at hcj
      have HN2:=z_ hn2
      have HV:=z_ hV
      have HB2:=z_ hB2
      clear hn2 hV hB2
      go_wp2_with fail
      have b1:=HF1.out
      have b2:=HF2.out
      have b5:=HF5.out
      have b9:=HF9.out
      have hV:=HV.out
      have hB2:=HB2.out
      have hfb : ∀k,F k->k≠b:=HFB.out.1
      have hFN : ∀k,wr.heap.size<=k->F k:=fun k hk=>HFB.out.2 k (by have:=HB.out.size;have:=blk_lt HND.out;have:=blk_lt HZ.out;omega)
      go_roundw
      case measure=>simp [intOf]
      case rel=>exact ⟨1,B,A2,A5,A9,d,c2,c5,c9,by omega,rfl,⟨blk_set HN2.out 1 _⟩,⟨(Kd.V_far (p:=⟨b,1,none⟩) (Kd.V_mono (Kd.R_V (Kd.R_bound hV)) (fun k hk=>hFN k hk.2.1)) hfb _)⟩,⟨(Kd.V_far (p:=⟨b,1,none⟩) (Kd.V_below b2 hB2) hfb _)⟩,⟨(Kd.V_far (p:=⟨b,1,none⟩) (Kd.V_below b5 hB2) hfb _)⟩,⟨(Kd.V_far (p:=⟨b,1,none⟩) (Kd.V_below b9 hB2) hfb _)⟩,⟨(blk_far (HZ.out.below hB2) (p:=⟨b,1,none⟩) HQB.out _)⟩,⟨Below.setCell (below_step HB.out hB2) (by have:=HBB.out;show w.heap.size<=b;omega) _⟩⟩
     ·go_wp2_with ((first|rw [index0_run]|rw [index1_run]|rw [index2_run]|rw [index3_run]);go_upon)
      refine (slices_Clone_byte_byte.calls A2 c2 n.f2 n.f2 wr (Kd.V_reads' HF2.out).2.2 (Kd.V_reads' HF2.out).2.1 (if_pos (by have:=HLN.out;unfold NdLen at this;omega))).mono ?_
      rintro e w3 ⟨v,rfl,hV,hB2⟩
      obtain ⟨B,d,rfl⟩:=Kd.R_slice hV
      have hn2:=HND.out.below hB2
      have hf:=blk_frozen hn2 2
      have hcj:=blk_cell hn2 2
      simp at hcj
      have HN2:=z_ hn2
      have HV:=z_ hV
      have HB2:=z_ hB2
      clear hn2 hV hB2
      go_wp2_with fail
      have b1:=HF1.out
      have b2:=HF2.out
      have b5:=HF5.out
      have b9:=HF9.out
      have hV:=HV.out
      have hB2:=HB2.out
      have hfb : ∀k,F k->k≠b:=HFB.out.1
      have hFN : ∀k,wr.heap.size<=k->F k:=fun k hk=>HFB.out.2 k (by have:=HB.out.size;have:=blk_lt HND.out;have:=blk_lt HZ.out;omega)
      go_roundw
      case measure=>simp [intOf]
      case rel=>exact ⟨2,A1,B,A5,A9,c1,d,c5,c9,by omega,rfl,⟨blk_set HN2.out 2 _⟩,⟨(Kd.V_far (p:=⟨b,2,none⟩) (Kd.V_below b1 hB2) hfb _)⟩,⟨(Kd.V_far (p:=⟨b,2,none⟩) (Kd.V_mono (Kd.R_V (Kd.R_bound hV)) (fun k hk=>hFN k hk.2.1)) hfb _)⟩,⟨(Kd.V_far (p:=⟨b,2,none⟩) (Kd.V_below b5 hB2) hfb _)⟩,⟨(Kd.V_far (p:=⟨b,2,none⟩) (Kd.V_below b9 hB2) hfb _)⟩,⟨(blk_far (HZ.out.below hB2) (p:=⟨b,2,none⟩) HQB.out _)⟩,⟨Below.setCell (below_step HB.out hB2) (by have:=HBB.out;show w.heap.size<=b;omega) _⟩⟩
     ·go_wp2_with ((first|rw [index0_run]|rw [index1_run]|rw [index2_run]|rw [index3_run]);go_upon)
      refine (slices_Clone_byte_byte.calls A5 c5 n.f5 n.f5 wr (Kd.V_reads' HF5.out).2.2 (Kd.V_reads' HF5.out).2.1 (if_pos (by have:=HLN.out;unfold NdLen at this;omega))).mono ?_
      rintro e w3 ⟨v,rfl,hV,hB2⟩
      obtain ⟨B,d,rfl⟩:=Kd.R_slice hV
      have hn2:=HND.out.below hB2
      have hf:=blk_frozen hn2 5
      have hcj:=blk_cell hn2 5
      simp at hcj
      have HN2:=z_ hn2
      have HV:=z_ hV
      have HB2:=z_ hB2
      clear hn2 hV hB2
      go_wp2_with fail
      have b1:=HF1.out
      have b2:=HF2.out
      have b5:=HF5.out
      have b9:=HF9.out
      have hV:=HV.out
      have hB2:=HB2.out
      have hfb : ∀k,F k->k≠b:=HFB.out.1
      have hFN : ∀k,wr.heap.size<=k->F k:=fun k hk=>HFB.out.2 k (by have:=HB.out.size;have:=blk_lt HND.out;have:=blk_lt HZ.out;omega)
      go_roundw
      case measure=>simp [intOf]
      case rel=>exact ⟨3,A1,A2,B,A9,c1,c2,d,c9,by omega,rfl,⟨blk_set HN2.out 5 _⟩,⟨(Kd.V_far (p:=⟨b,5,none⟩) (Kd.V_below b1 hB2) hfb _)⟩,⟨(Kd.V_far (p:=⟨b,5,none⟩) (Kd.V_below b2 hB2) hfb _)⟩,⟨(Kd.V_far (p:=⟨b,5,none⟩) (Kd.V_mono (Kd.R_V (Kd.R_bound hV)) (fun k hk=>hFN k hk.2.1)) hfb _)⟩,⟨(Kd.V_far (p:=⟨b,5,none⟩) (Kd.V_below b9 hB2) hfb _)⟩,⟨(blk_far (HZ.out.below hB2) (p:=⟨b,5,none⟩) HQB.out _)⟩,⟨Below.setCell (below_step HB.out hB2) (by have:=HBB.out;show w.heap.size<=b;omega) _⟩⟩
     ·go_wp2_with ((first|rw [index0_run]|rw [index1_run]|rw [index2_run]|rw [index3_run]);go_upon)
      refine (slices_Clone_byte_byte.calls A9 c9 n.f9 n.f9 wr (Kd.V_reads' HF9.out).2.2 (Kd.V_reads' HF9.out).2.1 (if_pos (by have:=HLN.out;unfold NdLen at this;omega))).mono ?_
      rintro e w3 ⟨v,rfl,hV,hB2⟩
      obtain ⟨B,d,rfl⟩:=Kd.R_slice hV
      have hn2:=HND.out.below hB2
      have hf:=blk_frozen hn2 9
      have hcj:=blk_cell hn2 9
      simp at hcj
      have HN2:=z_ hn2
      have HV:=z_ hV
      have HB2:=z_ hB2
      clear hn2 hV hB2
      go_wp2_with fail
      have b1:=HF1.out
      have b2:=HF2.out
      have b5:=HF5.out
      have b9:=HF9.out
      have hV:=HV.out
      have hB2:=HB2.out
      have hfb : ∀k,F k->k≠b:=HFB.out.1
      have hFN : ∀k,wr.heap.size<=k->F k:=fun k hk=>HFB.out.2 k (by have:=HB.out.size;have:=blk_lt HND.out;have:=blk_lt HZ.out;omega)
      go_roundw
      case measure=>simp [intOf]
      case rel=>exact ⟨4,A1,A2,A5,B,c1,c2,c5,d,by omega,rfl,⟨blk_set HN2.out 9 _⟩,⟨(Kd.V_far (p:=⟨b,9,none⟩) (Kd.V_below b1 hB2) hfb _)⟩,⟨(Kd.V_far (p:=⟨b,9,none⟩) (Kd.V_below b2 hB2) hfb _)⟩,⟨(Kd.V_far (p:=⟨b,9,none⟩) (Kd.V_below b5 hB2) hfb _)⟩,⟨(Kd.V_far (p:=⟨b,9,none⟩) (Kd.V_mono (Kd.R_V (Kd.R_bound hV)) (fun k hk=>hFN k hk.2.1)) hfb _)⟩,⟨(blk_far (HZ.out.below hB2) (p:=⟨b,9,none⟩) HQB.out _)⟩,⟨Below.setCell (below_step HB.out hB2) (by have:=HBB.out;show w.heap.size<=b;omega) _⟩⟩
    ·obtain rfl:k=4:=by omega
     obtain ⟨f0,f1,f2,f3,f4,f5,f6,f7,f8,f9⟩:=HZ.out.frozen
     obtain ⟨z0,z1,z2,z3,z4,z5,z6,z7,z8,z9⟩:=NdB.cells HZ.out
     go_wp2_with fail
     refine bodyPost_ret (results_nodeA _ q true (putN_nd HZ.out _ _ _ _ _ _ _ _ _ _) _ rfl rfl) rfl ⟨?_,putN_below HB.out (by rw [HQ.out];exact Nat.le_refl _) _ _ _ _ _ _ _ _ _ _⟩
     rw [HO.out]
     have hY : ∀(v:Value) (l:List Int),BX wr F v l->BX (putN wr q (.bool n.f0) (.slice A1 n.f1.length c1) (.slice A2 n.f2.length c2) (.int .i64 n.f3) (.int .i64 n.f4) (.slice A5 n.f5.length c5) (.int .i64 n.f6) (.int .i64 n.f7) (.int .i64 n.f8) (.slice A9 n.f9.length c9)) (fun k=>X k\/w.heap.size<=k) v l:=fun v l hv=>
      Kd.V_mono (Kd.V_step hv (fun k hk _=>putN_far (HFQ.out k hk) _ _ _ _ _ _ _ _ _ _)) HFX.out
     exact ⟨A1,A2,A5,A9,c1,c2,c5,c9,rfl,hY _ _ HF1.out,hY _ _ HF2.out,hY _ _ HF5.out,hY _ _ HF9.out⟩
end Go.Proofs.YtdeneoknjeegbaaGreatDoor.P
end
section
namespace Go.Proofs.YtdeneoknjeegbaaGreatDoor.P
open Go.RowKit YtdeneoknjeegbaaGreatDoor.Pure YtdeneoknjeegbaaGreatDoorW.PrintWords YtdeneoknjeegbaaGreatDoorW.PrintLast YtdeneoknjeegbaaGreatDoorW.PrintMore
def forkBad (cs:Cs) (depth:Int) (prefix_:List Int) (left right:Int):Prop:=depth<0\/8*(prefix_.length:Int)<depth\/65535<prefix_.length\/nodeAt cs left=none\/nodeAt cs right=none
def forkNd (size depth:Int) (prefix_:List Int) (left right:Int) (nl nr:Nd):Nd:=⟨false,[],[],0,depth,firstB prefix_ depth,(if nl.f6<nr.f6 then nr.f6 else nl.f6),left,right,hashB size 2 [num8 depth,firstB (firstB prefix_ depth) depth,num8 (if nl.f6<nr.f6 then nr.f6 else nl.f6),nl.f9,nr.f9]⟩
def forkOf (size:Int) (cs:Cs) (depth:Int) (prefix_:List Int) (left right:Int):Nd:=match nodeAt cs left,nodeAt cs right with
 | some nl,some nr=>forkNd size depth prefix_ left right nl nr
 | _,_=>z59
theorem FreeU8 {w:World} {base n c:Nat} {ok:Nat->Prop} {A:Option Addr} {l:List Int} (h:Kd.R (Kd.int .u8) 5 w base ok (.slice A n c) l):Kd.C (Kd.int .u8) w A l.length l:=(Kd.R_reads' h).2.2
def fork_T6:Bool×List (List Nat×List Nat):=(true,[([],[]),([],[]),([],[]),([1,2],[1,2]),([],[]),([4],[4]),([5],[5]),([6],[6]),([],[]),([8],[8]),([9],[9]),([10],[10]),([7,11],[7,11]),([],[]),([],[]),([0,3,12,13,14],[0,3,12,13,14]),([],[]),([16,15,3,0,1,2,3,4,5,6,7,8,9,10,11,12,13,14,15,16],[15,16])])
def fork_B6:List Nat:=[0,0,0,6,0,16,48,112,0,256,768,1792,4080,0,0,32767,0,131071]
theorem fork_tab6:rtab .any (opsOf Tryz.f31 6)=fork_T6:=by kernel_rfl
theorem fork_bits6:waitsOk fork_T6.2 fork_B6=true:=by kernel_rfl
attribute [local go_sem] max2_int min2_int max_two min_two
set_option maxHeartbeats 8000000 in
set_option maxRecDepth 100000 in
theorem fork_calls {w:World} {base p:Nat} {size room:Int} {vc vf:Value} {X:Nat->Prop} {cs:Cs} (h:ArenaM w base p size room vc vf X cs) (A:Option Addr) (cc:Nat) (c0:List Int) (depth left right:Int)
 (b0:BX w X (.slice A c0.length cc) c0) (hGS:GlobS w):
 Calls Tryz.prog 31 #[.pointer (some ⟨p,0,none⟩),.int .i64 depth,.slice A c0.length cc,.int .i64 left,.int .i64 right] w
  fun e w'=>PutPost (forkBad cs depth c0 left right) w w' base p size room vc vf X cs (forkOf size cs depth c0 left right) e:=by
 have HBk:=z_ (blkA h)
 have HS:=z_ (show size≠0 by have:=h.hs;omega)
 have HM:=z_ h
 have HB0:=z_ b0
 have HGS:=z_ hGS
 have HBW:=z_ h.base_le
 clear h b0 hGS
 obtain ⟨m8,hm8⟩ : ∃m,wrap64 (8*(c0.length:Int))=m:=⟨_,rfl⟩
 have HM8:=z_ (show m8<depth->8*(c0.length:Int)<depth\/65535<c0.length from fun hlt=>by
  by_cases hl:65535<c0.length
  ·exact .inr hl
  ·rw [wrap64_id _ (by omega)] at hm8
   exact .inl (by omega))
 have HM9:=z_ (show depth<=m8->c0.length<=65535->depth<=8*(c0.length:Int) from fun hlt hl=>by
  rw [wrap64_id _ (by omega)] at hm8
  omega)
 go_enter Tryz.func31,Tryz.ntmps31
 go_wp2_with fail
 refine (none_calls HBk.out HS.out).mono ?_
 rintro e w' ⟨rfl,rfl⟩
 go_wp2_with fail
 refine (atA_calls HM.out left).mono ?_
 rintro e w' ⟨⟨vl,rfl,hvl⟩,rfl⟩
 have HVL:=z_ hvl
 clear hvl
 go_wp2_with fail
 refine (atA_calls HM.out right).mono ?_
 rintro e w' ⟨⟨vr,rfl,hvr⟩,rfl⟩
 have HVR:=z_ hvr
 clear hvr
 by_cases h1:depth<0
 ·have hd1:=decide_eq_true h1
  have HC:=z_ (show forkBad cs depth c0 left right from .inl h1)
  clear h1 hm8
  go_wp2_with fail
  go_ret2
  exact ⟨fun _=>⟨rfl,ArenaP.of_below HM.out (Below.refl _ _)⟩,fun h=>absurd HC.out h,fun h=>absurd HC.out h⟩
 have hd1:=decide_eq_false h1
 by_cases h2:depth>m8
 ·have hd2:=decide_eq_true h2
  have HC:=z_ (show forkBad cs depth c0 left right from (HM8.out h2).elim (fun h=>.inr (.inl h)) (fun h=>.inr (.inr (.inl h))))
  clear h1 h2
  go_wp2_with fail
  go_ret2
  exact ⟨fun _=>⟨rfl,ArenaP.of_below HM.out (Below.refl _ _)⟩,fun h=>absurd HC.out h,fun h=>absurd HC.out h⟩
 have hd2:=decide_eq_false h2
 by_cases h3:(c0.length:Int)>65535
 ·have hd3:=decide_eq_true h3
  have hd4:decide (65535<c0.length)=true:=decide_eq_true (by omega)
  have HC:=z_ (show forkBad cs depth c0 left right from .inr (.inr (.inl (by omega))))
  clear h1 h2 h3
  go_wp2_with fail
  go_ret2
  exact ⟨fun _=>⟨rfl,ArenaP.of_below HM.out (Below.refl _ _)⟩,fun h=>absurd HC.out h,fun h=>absurd HC.out h⟩
 have hd3:=decide_eq_false h3
 have hd4:decide (65535<c0.length)=false:=decide_eq_false (by omega)
 have H65:=z_ (show c0.length<=65535 by omega)
 have H8:=z_ (HM9.out (by omega) (by omega))
 have H0D:=z_ h1
 clear h1 h2 h3
 cases hol:nodeAt cs left with
 | none=>
   have hv:=HVL.out
   rw [hol] at hv
   obtain rfl:vl = .pointer none:=hv
   have HC:=z_ (show forkBad cs depth c0 left right from .inr (.inr (.inr (.inl hol))))
   clear hol HVL HVR
   go_wp2_with fail
   go_ret2
   exact ⟨fun _=>⟨rfl,ArenaP.of_below HM.out (Below.refl _ _)⟩,fun h=>absurd HC.out h,fun h=>absurd HC.out h⟩
 | some nl=>
 cases hor:nodeAt cs right with
 | none=>
   have hv:=HVR.out
   rw [hor] at hv
   obtain rfl:vr = .pointer none:=hv
   have hv:=HVL.out
   rw [hol] at hv
   obtain ⟨gl,dl,rl,rfl,_,_⟩:=hv
   have HC:=z_ (show forkBad cs depth c0 left right from .inr (.inr (.inr (.inr hor))))
   clear hol hor HVL HVR
   go_wp2_with fail
   go_ret2
   exact ⟨fun _=>⟨rfl,ArenaP.of_below HM.out (Below.refl _ _)⟩,fun h=>absurd HC.out h,fun h=>absurd HC.out h⟩
 | some nr=>
 have HC:=z_ (show ¬forkBad cs depth c0 left right from fun hb=>by
  rcases hb with hb|hb|hb|hb|hb
  ·have:=H0D.out
   omega
  ·have:=H8.out
   omega
  ·have:=H65.out
   omega
  ·rw [hol] at hb
   cases hb
  ·rw [hor] at hb
   cases hb)
 have HOF:=z_ (show forkOf size cs depth c0 left right=forkNd size depth c0 left right nl nr by unfold forkOf;rw [hol,hor])
 have hvl:=HVL.out
 have hvr:=HVR.out
 rw [hol] at hvl
 rw [hor] at hvr
 obtain ⟨gl,dl,rl,rfl,⟨LA1,LA2,LA5,LA9,lc1,lc2,lc5,lc9,hrl,-,-,-,bl9⟩,hcl⟩:=hvl
 obtain ⟨gr,dr,rr,rfl,⟨RA1,RA2,RA5,RA9,rc1,rc2,rc5,rc9,hrr,-,-,-,br9⟩,hcr⟩:=hvr
 have l6:=hcl 6 (.int .i64 nl.f6) (by rw [hrl];rfl)
 have l9:=hcl 9 (.slice LA9 nl.f9.length lc9) (by rw [hrl];rfl)
 have r6:=hcr 6 (.int .i64 nr.f6) (by rw [hrr];rfl)
 have r9:=hcr 9 (.slice RA9 nr.f9.length rc9) (by rw [hrr];rfl)
 have HSOK:=z_ (show ∀w':World,Below w.heap.size w w'->w'.cell? ⟨gl,dl+6,none⟩=some (.int .i64 nl.f6)/\w'.cell? ⟨gr,dr+6,none⟩=some (.int .i64 nr.f6) from fun w' hb=>⟨(hb.cell (World.block_lt_of_cell? w _ l6)).trans l6,(hb.cell (World.block_lt_of_cell? w _ r6)).trans r6⟩)
 have HS9:=z_ (show ∀w':World,Below w.heap.size w w'->w'.cell? ⟨gl,dl+9,none⟩=some (.slice LA9 nl.f9.length lc9)/\w'.cell? ⟨gr,dr+9,none⟩=some (.slice RA9 nr.f9.length rc9) from fun w' hb=>⟨(hb.cell (World.block_lt_of_cell? w _ l9)).trans l9,(hb.cell (World.block_lt_of_cell? w _ r9)).trans r9⟩)
 have HL9:=z_ bl9
 have HR9:=z_ br9
 have HFIRST:=z_ (show ∀W:World,Below w.heap.size w W->Calls Tryz.prog 62 #[.slice A c0.length cc,.int .i64 depth] W fun e w'=>∃v0_:Value,e = .returned (v0_)/\Kd.R (Kd.int .u8) 5 w' W.heap.size (fun _=>True) v0_ (firstB c0 depth)/\Below W.heap.size W w' from fun W hb=>
  bits_First.calls A cc c0 depth (firstB c0 depth) W (Kd.V_reads' (Kd.V_below HB0.out hb)).2.2 (Kd.V_reads' HB0.out).2.1 (by unfold bits_First.f;exact if_pos (by have:=H65.out;omega)))
 clear hcl hcr hrl hrr bl9 br9 l6 l9 r6 r9 hol hor HVL HVR HM8 HM9
 go_wp2_with fail
 refine start_ (n:=18) (S:=fun w'=>w'.cell? ⟨gl,dl+6,none⟩=some (.int .i64 nl.f6)/\w'.cell? ⟨gr,dr+6,none⟩=some (.int .i64 nr.f6)) (ds:=[]) (bt_ 18 0) (by kernel_rfl) rfl rfl (HSOK.out _ (below_drew (Below.refl _ _))) (fun hHeld=>?_);refine with_tabW fork_tab6 fork_bits6 (fun HT_ HW_=>?_)
 have HB:=z_ (show Below w.heap.size w w.drew from below_drew (Below.refl _ _))
 generalize hgw:w.drew=w22 at HB hHeld ⊢
 clear hgw
 refine pure_ (i:=0) (N:=some 45) (v:=?_) (a':=?_) (bt_ 18 1) rfl rfl (any_of HT_.out (by kernel_rfl)) (fun _ _ _ h=>h) (Or.inl ⟨by rfl,?_⟩) ?_ ?_
 rotate_left
 ·intro w'
  go_simp
  with_reducible rfl
 rotate_left
 ·simp only [pq_]
  rfl
 refine pure_ (i:=1) (N:=some 46) (v:=?_) (a':=?_) (bt_ 18 3) rfl rfl (any_of HT_.out (by kernel_rfl)) (fun _ _ _ h=>h) (Or.inl ⟨by rfl,?_⟩) ?_ ?_
 rotate_left
 ·intro w'
  go_simp
  with_reducible rfl
 rotate_left
 ·simp only [pq_]
  rfl
 refine pure_ (i:=2) (N:=some 47) (v:=?_) (a':=?_) (bt_ 18 7) rfl rfl (any_of HT_.out (by kernel_rfl)) (fun _ _ _ h=>h) (Or.inl ⟨by rfl,?_⟩) ?_ ?_
 rotate_left
 ·intro w'
  go_simp
  with_reducible rfl
 rotate_left
 ·simp only [pq_]
  rfl
 refine pure_ (i:=4) (N:=some 49) (v:=?_) (a':=?_) (bt_ 18 23) rfl rfl (any_of HT_.out (by kernel_rfl)) (fun _ _ _ h=>h) (Or.inl ⟨by rfl,?_⟩) ?_ ?_
 rotate_left
 ·intro w'
  go_simp
  with_reducible rfl
 rotate_left
 ·simp only [pq_]
  rfl
 refine pure_ (i:=5) (N:=some 50) (v:=?_) (a':=?_) (bt_ 18 55) rfl rfl (any_of HT_.out (by kernel_rfl)) (fun _ _ _ h=>h) (Or.inl ⟨by rfl,?_⟩) ?_ ?_
 rotate_left
 ·intro w'
  go_simp
  with_reducible rfl
 rotate_left
 ·simp only [pq_]
  rfl
 refine pure_ (i:=6) (N:=some 51) (v:=?_) (a':=?_) (bt_ 18 119) rfl rfl (any_of HT_.out (by kernel_rfl)) (fun _ _ _ h=>h) (Or.inl ⟨by rfl,?_⟩) ?_ ?_
 rotate_left
 ·intro w'
  go_simp
  with_reducible rfl
 rotate_left
 ·simp only [pq_]
  rfl
 refine pure_ (i:=8) (N:=some 53) (v:=?_) (a':=?_) (bt_ 18 375) rfl rfl (any_of HT_.out (by kernel_rfl)) (fun _ _ _ h=>h) (Or.inl ⟨by rfl,?_⟩) ?_ ?_
 rotate_left
 ·intro w'
  go_simp
  with_reducible rfl
 rotate_left
 ·simp only [pq_]
  rfl
 refine pure_ (i:=9) (N:=some 54) (v:=?_) (a':=?_) (bt_ 18 887) rfl rfl (any_of HT_.out (by kernel_rfl)) (fun _ _ _ h=>h) (Or.inl ⟨by rfl,?_⟩) ?_ ?_
 rotate_left
 ·intro w'
  go_simp
  with_reducible rfl
 rotate_left
 ·simp only [pq_]
  rfl
 refine pure_ (i:=10) (N:=some 55) (v:=?_) (a':=?_) (bt_ 18 1911) rfl rfl (any_of HT_.out (by kernel_rfl)) (fun _ _ _ h=>h) (Or.inl ⟨by rfl,?_⟩) ?_ ?_
 rotate_left
 ·intro w'
  go_simp
  with_reducible rfl
 rotate_left
 ·simp only [pq_]
  rfl
 refine pure_ (i:=13) (N:=some 58) (v:=?_) (a':=?_) (bt_ 18 10103) rfl rfl (any_of HT_.out (by kernel_rfl)) (fun _ _ _ h=>h) (Or.inl ⟨by rfl,?_⟩) ?_ ?_
 rotate_left
 ·intro w'
  go_simp
  with_reducible rfl
 rotate_left
 ·simp only [pq_]
  rfl
 refine pure_ (i:=14) (N:=some 59) (v:=?_) (a':=?_) (bt_ 18 26487) rfl rfl (any_of HT_.out (by kernel_rfl)) (fun _ _ _ h=>h) (Or.inl ⟨by rfl,?_⟩) ?_ ?_
 rotate_left
 ·intro w'
  go_simp
  with_reducible rfl
 rotate_left
 ·simp only [pq_]
  rfl
 refine take_ (i:=7) (N:=some 52) (v:=?_) (a':=?_) (bt_ 18 26615) rfl rfl (take_ofW HT_.out HW_.out (by kernel_rfl)) (fun _ _ _ h=>h) (Or.inl ⟨by rfl,?_⟩) hHeld ?_ ?_
 rotate_left
 ·rintro w' ⟨s0,s1⟩
  go_simp
  with_reducible rfl
 rotate_left
 ·simp only [pq_]
  rfl
 refine take_ (i:=11) (N:=some 56) (v:=?_) (a':=?_) (bt_ 18 28663) rfl rfl (take_ofW HT_.out HW_.out (by kernel_rfl)) (fun _ _ _ h=>h) (Or.inl ⟨by rfl,?_⟩) hHeld ?_ ?_
 rotate_left
 ·rintro w' ⟨s0,s1⟩
  go_simp
  with_reducible rfl
 rotate_left
 ·simp only [pq_]
  rfl
 refine pure_ (i:=12) (N:=some 57) (v:=?_) (a':=?_) (bt_ 18 32759) rfl rfl (any_of HT_.out (by kernel_rfl)) (fun _ _ _ h=>h) (Or.inl ⟨by rfl,?_⟩) ?_ ?_
 rotate_left
 ·intro w'
  go_simp
  with_reducible rfl
 rotate_left
 ·simp only [pq_]
  rfl
 refine join_ (σ:=Option Addr×Nat×Nat) 1 (bt_ 18 131071) (fun s_=>[(48,.slice s_.1 (firstB c0 depth).length s_.2.1),(14,.pointer (some ⟨s_.2.2,0,none⟩)),(60,.agg #[.bool false,.slice none 0 0,.slice none 0 0,.int .i64 0,.int .i64 depth,.slice s_.1 (firstB c0 depth).length s_.2.1,.int .i64 (if nl.f6<nr.f6 then nr.f6 else nl.f6),.int .i64 left,.int .i64 right,.slice none 0 0])]) (fun s_ w'=>(w'.cell? ⟨gl,dl+6,none⟩=some (.int .i64 nl.f6)/\w'.cell? ⟨gr,dr+6,none⟩=some (.int .i64 nr.f6))/\Kd.R (Kd.int .u8) 5 w' w.heap.size (fun k=>k≠s_.2.2) (.slice s_.1 (firstB c0 depth).length s_.2.1) (firstB c0 depth)/\NdB w' s_.2.2 zeroR/\Below w.heap.size w w'/\w.heap.size<=s_.2.2) ?_ ?_
 rotate_left
 ·intro hCont
  refine two_ (i:=3) (j:=16) (Ni:=some 48) (Nj:=some 14) (bt_ 18 32767) (bt_ 18 98295) rfl rfl rfl rfl (two_of HT_.out (by kernel_rfl)) (by decide) (by decide) (fun K hK=>?_) (fun K hK=>?_)
  ·skip
   refine goes_ Tryz.func62 (by kernel_rfl) rfl #[.slice A c0.length cc,.int .i64 depth] (by rfl) rfl rfl (by (try simp only [List.map_toArray,List.map_cons,List.map_nil]);first|done|rfl) ?_
   with_reducible refine (HFIRST.out _ HB.out).mono ?_
   rintro e w23 ⟨v5,rfl,hR5,hb⟩
   obtain ⟨B5,d5,rfl⟩:=Kd.R_slice hR5
   refine ⟨_,rfl,?_⟩
   have hbs:=HB.out.size
   have HR5:=z_ (Kd.R_lower hR5 hbs)
   have HL5:=z_ (Kd.R_bound hR5)
   replace HB:=z_ (below_step HB.out hb)
   refine hK.out _ _ (HSOK.out _ HB.out) (fun hHeld=>?_)
   clear hK K
   refine norm_ (a':=?_) ?_ ?_
   rotate_left
   ·show Act.put _ (some 48) _=_
    simp only [pq_]
    rfl
   refine pure_ (i:=15) (N:=some 60) (v:=?_) (a':=?_) (bt_ 18 65535) rfl rfl (any_of HT_.out (by kernel_rfl)) (fun _ _ _ h=>h) (Or.inl ⟨by rfl,?_⟩) ?_ ?_
   rotate_left
   ·intro w'
    go_simp
    with_reducible rfl
   rotate_left
   ·simp only [pq_]
    rfl
   refine one_ (i:=16) (N:=some 14) (bt_ 18 131071) rfl rfl (one_of HT_.out (by kernel_rfl)) (by decide) (fun K hK=>?_)
   refine box_step ?hg (N:=14) ?hd (cs:=#[.bool false,.slice none 0 0,.slice none 0 0,.int .i64 0,.int .i64 0,.slice none 0 0,.int .i64 0,.int .i64 0,.int .i64 0,.slice none 0 0]) (t:=59) ?hr ?_;(case hd=>rfl);(case hg=>rfl);(case hr=>first|(go_simp;done)|(go_simp;rfl))
   intro g hg w24 hbox hb
   have HGE:=z_ (show w.heap.size<=g from by have:=HB.out.size;omega)
   have HG:=z_ (show NdB w24 g zeroR from hbox)
   replace HR5:=z_ (Kd.R_mono (Kd.R_below (Kd.R_bound HR5.out) hb) (ok':=fun k=>k≠g) (fun k hk=>by have:=hk.2.2.1;omega))
   replace HB:=z_ (below_step HB.out hb)
   refine hK.out _ _ (HSOK.out _ HB.out) (fun hHeld=>?_)
   clear hK K
   refine norm_ (a':=?_) ?_ ?_
   rotate_left
   ·show Act.put _ (some 14) _=_
    simp only [pq_]
    rfl
   exact norm_ (by simp only [putAll,Act.put,List.setIfInBounds_toArray,List.set_cons_zero,List.set_cons_succ]) (hCont (B5,d5,g) _ ⟨hHeld,HR5.out,HG.out,HB.out,HGE.out⟩)
  ·skip
   refine box_step ?hg (N:=14) ?hd (cs:=#[.bool false,.slice none 0 0,.slice none 0 0,.int .i64 0,.int .i64 0,.slice none 0 0,.int .i64 0,.int .i64 0,.int .i64 0,.slice none 0 0]) (t:=59) ?hr ?_;(case hd=>rfl);(case hg=>rfl);(case hr=>first|(go_simp;done)|(go_simp;rfl))
   intro g hg w24 hbox hb
   have HGE:=z_ (show w.heap.size<=g/\g<w24.heap.size from ⟨by have:=HB.out.size;omega,blk_lt hbox⟩)
   have HG:=z_ (show NdB w24 g zeroR from hbox)
   replace HB:=z_ (below_step HB.out hb)
   refine hK.out _ _ (HSOK.out _ HB.out) (fun hHeld=>?_)
   clear hK K
   refine norm_ (a':=?_) ?_ ?_
   rotate_left
   ·show Act.put _ (some 14) _=_
    simp only [pq_]
    rfl
   refine one_ (i:=3) (N:=some 48) (bt_ 18 98303) rfl rfl (one_of HT_.out (by kernel_rfl)) (by decide) (fun K hK=>?_)
   refine goes_ Tryz.func62 (by kernel_rfl) rfl #[.slice A c0.length cc,.int .i64 depth] (by rfl) rfl rfl (by (try simp only [List.map_toArray,List.map_cons,List.map_nil]);first|done|rfl) ?_
   with_reducible refine (HFIRST.out _ HB.out).mono ?_
   rintro e w23 ⟨v5,rfl,hR5,hb⟩
   obtain ⟨B5,d5,rfl⟩:=Kd.R_slice hR5
   refine ⟨_,rfl,?_⟩
   have hbs:=HB.out.size
   have HR5:=z_ (Kd.R_lower (Kd.R_mono (Kd.R_bound hR5) (ok':=fun k=>k≠g) (fun k hk=>by have:=hk.2.1;have:=HGE.out.2;omega)) hbs)
   replace HG:=z_ (HG.out.below hb)
   replace HGE:=z_ HGE.out.1
   replace HB:=z_ (below_step HB.out hb)
   refine hK.out _ _ (HSOK.out _ HB.out) (fun hHeld=>?_)
   clear hK K
   refine norm_ (a':=?_) ?_ ?_
   rotate_left
   ·show Act.put _ (some 48) _=_
    simp only [pq_]
    rfl
   refine pure_ (i:=15) (N:=some 60) (v:=?_) (a':=?_) (bt_ 18 131071) rfl rfl (any_of HT_.out (by kernel_rfl)) (fun _ _ _ h=>h) (Or.inl ⟨by rfl,?_⟩) ?_ ?_
   rotate_left
   ·intro w'
    go_simp
    with_reducible rfl
   rotate_left
   ·simp only [pq_]
    rfl
   exact norm_ (by simp only [putAll,Act.put,List.setIfInBounds_toArray,List.set_cons_zero,List.set_cons_succ]) (hCont (B5,d5,g) _ ⟨hHeld,HR5.out,HG.out,HB.out,HGE.out⟩)
 rintro ⟨B5,d5,g⟩ w4 ⟨hHeld,hR5,hg,hb,hge⟩
 refine norm_ (a':=?_) ?_ ?_
 rotate_left
 ·simp only [putAll,Act.put,List.setIfInBounds_toArray,List.set_cons_zero,List.set_cons_succ]
  rfl
 refine one_ (i:=17) (N:=none) (bt_ 18 262143) rfl rfl (one_of HT_.out (by kernel_rfl)) (by decide) (fun K hK=>?_)
 obtain ⟨nw,hnw⟩ : ∃nw,nw=(if nl.f6<nr.f6 then nr.f6 else nl.f6):=⟨_,rfl⟩
 have HNW:=z_ hnw
 obtain ⟨w5,hw5⟩ : ∃w5,w5=putN w4 g (.bool false) (.slice none 0 0) (.slice none 0 0) (.int .i64 0) (.int .i64 depth) (.slice B5 (firstB c0 depth).length d5) (.int .i64 nw) (.int .i64 left) (.int .i64 right) (.slice none 0 0):=⟨_,rfl⟩
 have HG5:=z_ (show NdB w5 g [.bool false,.slice none 0 0,.slice none 0 0,.int .i64 0,.int .i64 depth,.slice B5 (firstB c0 depth).length d5,.int .i64 nw,.int .i64 left,.int .i64 right,.slice none 0 0] from by rw [hw5];exact putN_nd hg _ _ _ _ _ _ _ _ _ _)
 have HB5:=z_ (show Below w.heap.size w w5 from by rw [hw5];exact putN_below hb hge _ _ _ _ _ _ _ _ _ _)
 have HR5:=z_ (show Kd.R (Kd.int .u8) 5 w5 w.heap.size (fun k=>k≠g) (.slice B5 (firstB c0 depth).length d5) (firstB c0 depth) from by rw [hw5];exact Kd.R_step hR5 (fun k hk _=>putN_far hk _ _ _ _ _ _ _ _ _ _))
 have HGE:=z_ hge
 obtain ⟨z0,z1,z2,z3,z4,z5,z6,z7,z8,z9⟩:=NdB.cells hg
 obtain ⟨f0,f1,f2,f3,f4,f5,f6,f7,f8,f9⟩:=hg.frozen
 clear hR5
 refine skip_ (w1:=w5) (by rfl) rfl ?_ ?_
 ·rw [hw5,hnw]
  go_simp<;>first|rfl|done
 clear z0 z1 z2 z3 z4 z5 z6 z7 z8 z9 f0 f1 f2 f3 f4 f5 f6 f7 f8 f9 hw5 hg hb hge hHeld
 refine hK.out _ _ (HSOK.out _ HB5.out) (fun hHeld=>?_)
 clear hK K hHeld
 refine done_ (done_of HT_.out (by kernel_rfl)) ?_
 clear HFIRST HSOK
 have HNV:=HNW
 obtain ⟨c5,hc5⟩ : ∃c5,c5=firstB c0 depth:=⟨_,rfl⟩
 have HC5:=z_ hc5
 have HL5:=z_ (show c5.length<=65535 from by rw [hc5];exact Nat.le_trans (firstB_length c0 depth) H65.out)
 rw [<-hc5] at HG5 HR5
 rw [<-hc5]
 clear hc5
 try rw [<-HNW.out]
 clear hnw
 go_wp2_with fail
 refine still_tail_at 17 (by kernel_rfl) (by kernel_rfl) (fun W hW=>?_)
 have hbw:Below w5.heap.size w5 W:=by rw [hW];exact below_drew (Below.refl _ _)
 clear hW
 have HG6:=z_ (HG5.out.below hbw)
 have HB6:=z_ (below_step HB5.out hbw)
 have HR6:=z_ (Kd.R_below HR5.out hbw)
 clear hbw HG5 HB5 HR5
 obtain ⟨k0,k1,k2,k3⟩:=(HBk.out.below HB6.out).cells
 obtain ⟨z0,z1,z2,z3,z4,z5,z6,z7,z8,z9⟩:=NdB.cells HG6.out
 obtain ⟨l9,r9⟩:=HS9.out W HB6.out
 have hgW:=blk_lt HG6.out
 simp only [List.take_succ_cons,List.take_zero,List.drop_succ_cons,List.drop_zero]
 repeat still_step
 refine wpStill_nil ?_
 go_wp2_with fail
 obtain ⟨lh,hlh⟩ : ∃lh,lh=hashB size 2 [num8 depth,firstB c5 depth,num8 nw,nl.f9,nr.f9]:=⟨_,rfl⟩
 have HLH:=z_ hlh
 have hhash:=arena_ForkHash.calls 9 size depth B5 d5 c5 nw (fun k=>X k/\k<w.heap.size) LA9 lc9 nl.f9 (fun k=>X k/\k<w.heap.size) RA9 rc9 nr.f9 lh W (FreeU8 HR6.out) (Kd.R_reads' HR6.out).2.1 (Kd.V_below (Kd.V_bound HL9.out) HB6.out) (Kd.V_below (Kd.V_bound HR9.out) HB6.out) (GlobS.of HGS.out HB6.out) (by rw [hlh];exact fork_f 9 (by decide) size depth c5 nw nl.f9 nr.f9 (by have:=HL5.out;omega))
 clear hlh
 refine hhash.mono ?_
 clear hhash
 rintro e3 w7 ⟨v,rfl,hV4,hB4⟩
 obtain ⟨B9,d9,rfl⟩:=Kd.V_slice hV4
 have HV4:=z_ hV4
 have HB4:=z_ hB4
 have HG7:=z_ (HG6.out.below hB4)
 clear hV4 hB4 z0 z1 z2 z3 z4 z5 z6 z7 z8 z9 l9 r9 k0 k1 k2 k3
 obtain ⟨z0,z1,z2,z3,z4,z5,z6,z7,z8,z9⟩:=NdB.cells HG7.out
 have f9:=blk_frozen HG7.out 9
 go_wp2_with fail
 clear z0 z1 z2 z3 z4 z5 z6 z7 z8 z9 f9
 obtain ⟨W8,hW8⟩ : ∃W8,W8=w7.setCell ⟨g,9,none⟩ (.slice B9 lh.length d9):=⟨_,rfl⟩
 rw [<-hW8]
 have hge:w.heap.size<=g:=HGE.out
 have hgW2:g<W.heap.size:=blk_lt HG6.out
 have s6:=HB6.out.size
 have s4:=HB4.out.size
 have hB07:Below w.heap.size w w7:=HB6.out.trans (HB4.out.mono s6)
 have hB08:Below w.heap.size w W8:=by rw [hW8];exact Below.setCell hB07 (by show w.heap.size<=g;exact hge) _
 have hsz:W8.heap.size=w7.heap.size:=by rw [hW8];simp [World.setCell]
 have hfar : ∀k,k≠g->W8.heap[k]? = w7.heap[k]? := fun k hk=>by rw [hW8];exact Below.heap_setCell w7 ⟨g,9,none⟩ _ k hk
 obtain ⟨X4,hX4⟩ : ∃X4:Nat->Prop,X4=fun k=>X k\/(w.heap.size<=k/\k<w7.heap.size/\k≠g):=⟨_,rfl⟩
 have hsepX : ∀k,X k->k<w.heap.size/\¬OwnS p vc vf k:=by
  obtain ⟨rows,fr,hv⟩:=HM.out.mem
  exact hv.sep
 have hownlt : ∀k,OwnS p vc vf k->k<w.heap.size:=by
  obtain ⟨rows,fr,hv⟩:=HM.out.mem
  exact hv.own_lt
 have hM5:ArenaM W8 base p size room vc vf X4 cs:=HM.out.step (by omega) (fun k hk _=>hB08.block k hk) (fun k hx=>by rw [hX4];exact .inl hx) (fun k hx=>by
  rw [hX4] at hx
  rcases hx with hx|hx
  ·exact ⟨by have:=(hsepX k hx).1;omega,(hsepX k hx).2⟩
  ·exact ⟨by omega,fun ho=>by have:=hownlt k ho;omega⟩)
 have hb5:BX W8 X4 (.slice B5 c5.length d5) c5:=by
  have h1:=Kd.R_V (base':=0) (Kd.R_bound HR6.out)
  refine Kd.V_mono (Kd.V_step h1 (fun k hk hl=>?_)) (fun k hk=>by rw [hX4];exact .inr ⟨hk.2.1,by have:=hk.2.2.1;omega,hk.1⟩)
  rw [hfar k hk.1,HB4.out.block k hl]
 have hb9:BX W8 X4 (.slice B9 lh.length d9) lh:=by
  have h1:=Kd.V_bound HV4.out
  refine Kd.V_mono (Kd.V_step h1 (fun k hk hl=>?_)) (fun k hk=>?_)
  ·refine hfar k ?_
   rcases hk.1 with (hk1|hk1)|hk1
   ·have:=hk1.2
    omega
   ·have:=hk1.2
    omega
   ·omega
  ·rw [hX4]
   rcases hk.1 with (hk1|hk1)|hk1
   ·exact .inl hk1.1
   ·exact .inl hk1.1
   ·exact .inr ⟨by omega,hk.2,by omega⟩
 have HGR:=z_ (show Grew w X X4 from fun k hk=>by
  rw [hX4] at hk
  exact hk.imp id (fun h=>h.1))
 have HB08:=z_ hB08
 have hput:=put_calls hM5 ⟨false,[],[],0,depth,c5,nw,left,right,lh⟩ none none B5 B9 0 0 d5 d9 (Kd.V_nil _ _ _ _ _) (Kd.V_nil _ _ _ _ _) hb5 hb9
 clear hM5 hb5 hb9 hX4 hsepX hownlt hfar hsz hB08 hB07 s6 s4 hW8 hge hgW2
 refine hput.mono ?_
 rintro e5 w9 hpost
 have HPO:=z_ hpost
 clear hpost hput
 by_cases hfull:(usedN cs:Int)=room
 ·have hp:=HPO.out
  rw [if_pos hfull] at hp
  obtain ⟨rfl,hp⟩:=hp
  have HP:=z_ hp
  have HFU:=z_ hfull
  clear hp HPO hfull
  go_wp2_with fail
  go_ret2
  exact ⟨fun h=>absurd h HC.out,fun _ _=>⟨rfl,HP.out.start HGR.out HB08.out HBW.out.1⟩,fun _ h=>absurd HFU.out h⟩
 ·have hp:=HPO.out
  rw [if_neg hfull] at hp
  obtain ⟨rfl,hp⟩:=hp
  have HP:=z_ hp
  have HFU:=z_ hfull
  clear hp HPO hfull
  go_wp2_with fail
  go_ret2
  refine ⟨fun h=>absurd h HC.out,fun _ h=>absurd h HFU.out,fun _ _=>⟨rfl,?_⟩⟩
  rw [HOF.out]
  unfold forkNd
  rw [<-HNW.out,<-HC5.out,<-HLH.out]
  exact HP.out.start HGR.out HB08.out HBW.out.1
end Go.Proofs.YtdeneoknjeegbaaGreatDoor.P
end
section
namespace Go.Proofs.YtdeneoknjeegbaaGreatDoor.P
open Go.RowKit
inductive Reach (cs:Cs) (roots:List Int):Int->Prop
 | root {i:Int}:i∈roots->(nodeAt cs i).isSome=true->Reach cs roots i
 | kid {i c:Int} {n:Nd}:Reach cs roots i->nodeAt cs i=some n->n.f0=false->(c=n.f7\/c=n.f8)->(nodeAt cs c).isSome=true->Reach cs roots c
theorem nodeAt_lt {cs:Cs} {i:Int} (h:(nodeAt cs i).isSome=true):0<=i/\i.toNat<cs.length:=by
 unfold nodeAt at h
 split at h
 ·rename_i h0
  refine ⟨h0,?_⟩
  rcases Nat.lt_or_ge i.toNat cs.length with h1|h1
  ·exact h1
  ·rw [List.getElem?_eq_none h1] at h
   cases h
 ·cases h
def Mk (marks:List Bool) (c:Int):Prop:=marks[c.toNat]? = some true
structure Dfs (cs:Cs) (roots todo:List Int) (marks:List Bool):Prop where
 len:marks.length=cs.length
 sound : ∀c:Int,0<=c->Mk marks c->Reach cs roots c
 kids : ∀(c d:Int) (n:Nd),0<=c->Mk marks c->nodeAt cs c=some n->n.f0=false->(d=n.f7\/d=n.f8)->(nodeAt cs d).isSome=true->Mk marks d\/d∈todo
 root : ∀r,r∈roots->(nodeAt cs r).isSome=true->Mk marks r\/r∈todo
 todo : ∀t,t∈todo->(nodeAt cs t).isSome=true->Reach cs roots t
theorem Dfs.done {cs:Cs} {roots:List Int} {marks:List Bool} (h:Dfs cs roots [] marks) (c:Int) (h0:0<=c):Mk marks c↔Reach cs roots c:=by
 refine ⟨h.sound c h0,fun hr=>?_⟩
 induction hr with
 | root h1 h2=>exact (h.root _ h1 h2).elim id (fun hx=>by cases hx)
 | kid h1 h2 h3 h4 h5 ih=>exact (h.kids _ _ _ (nodeAt_lt (by rw [h2];rfl)).1 (ih (nodeAt_lt (by rw [h2];rfl)).1) h2 h3 h4 h5).elim id (fun hx=>by cases hx)
theorem Dfs.same {cs:Cs} {roots:List Int} {a b:List Bool} (ha:Dfs cs roots [] a) (hb:Dfs cs roots [] b):a=b:=by
 refine List.ext_getElem (by rw [ha.len,hb.len]) (fun k h1 h2=>?_)
 have e1:=ha.done (k:Int) (by omega)
 have e2:=hb.done (k:Int) (by omega)
 unfold Mk at e1 e2
 rw [Int.toNat_natCast,List.getElem?_eq_getElem h1] at e1
 rw [Int.toNat_natCast,List.getElem?_eq_getElem h2] at e2
 have e3:(a[k]=true)↔(b[k]=true):=by
  constructor
  ·intro h
   exact Option.some.inj (e2.2 (e1.1 (by rw [h])))
  ·intro h
   exact Option.some.inj (e1.2 (e2.1 (by rw [h])))
 cases h3:a[k]<;>cases h4:b[k]<;>simp_all
end Go.Proofs.YtdeneoknjeegbaaGreatDoor.P
end
section
namespace Go.Proofs.YtdeneoknjeegbaaGreatDoor.P
open Go.RowKit YtdeneoknjeegbaaGreatDoorW.PrintWords YtdeneoknjeegbaaGreatDoorW.PrintLast YtdeneoknjeegbaaGreatDoorW.PrintMore
def QBlk (w:World) (q:Nat) (size most:Int) (vl:Value):Prop:=w.heap[q]? = some (.cells #[.int .i64 size,.int .i64 most,vl] 56 (0,0))
theorem QBlk.below {w w1:World} {q:Nat} {size most:Int} {vl:Value} (h:QBlk w q size most vl) (hb:Below w.heap.size w w1):QBlk w1 q size most vl:=blk_below h hb
theorem QBlk.lt {w:World} {q:Nat} {size most:Int} {vl:Value} (h:QBlk w q size most vl):q<w.heap.size:=blk_lt h
theorem QBlk.cells {w:World} {q:Nat} {size most:Int} {vl:Value} (h:QBlk w q size most vl):w.cell? ⟨q,0,none⟩=some (.int .i64 size)/\w.cell? ⟨q,1,none⟩=some (.int .i64 most)/\w.cell? ⟨q,2,none⟩=some vl:=
 ⟨(blk_cell h 0).trans rfl,(blk_cell h 1).trans rfl,(blk_cell h 2).trans rfl⟩
abbrev RowsR (w:World) (base:Nat) (v:Value) (rows:List (List Value)):Prop:=Kd.R (Kd.raw 10) 59 w base (fun _=>True) v rows
theorem raw_row10 {w:World} {base:Nat} {v:Value} {rows:List (List Value)} (h:RowsR w base v rows) (k:Nat) (r:List Value) (hr:rows[k]? = some r):r.length=10/\∃g c,v = .slice (some ⟨g,0,none⟩) rows.length c/\∀j u,r[j]? = some u->w.cell? ⟨g,k*10+j,none⟩=some u:=by
 obtain ⟨A,c,rfl⟩:=Kd.R_slice h
 have hkl:=(List.getElem?_eq_some_iff.1 hr).1
 have hrd:=Kd.R_reads' h
 obtain ⟨ad,cc,e,hcl,hcK,hcc⟩:=Kd.C_get hrd.2.2 ([]:List Value) (k:Int) (by omega) (by omega)
 subst e
 obtain ⟨g,rfl⟩:=Kd.R_head h
 have h0:=hcK.1
 rw [Int.toNat_natCast,List.getD_eq_getElem?_getD,hr] at h0
 have h1:cc=r:=h0
 refine ⟨by rw [<-h1];exact hcl,g,c,rfl,fun j u hj=>?_⟩
 have:=hcc j u (by rw [h1];exact hj)
 rwa [Int.toNat_natCast,add_plain] at this
def node0:List Value:=[.bool false,.slice none 0 0,.slice none 0 0,.int .i64 0,.int .i64 0,.slice none 0 0,.int .i64 0,.int .i64 0,.int .i64 0,.slice none 0 0]
def NodeOk (w:World) (X:Nat->Prop):Option Nd->List Value->Prop
 | none,r=>r=node0
 | some n,r=>RowOf w X n r/\0<n.f9.length
theorem NodeOk.step {w w1:World} {X X1:Nat->Prop} {o:Option Nd} {r:List Value} (h:NodeOk w X o r) (hk : ∀k,X k->k<w.heap.size->w1.heap[k]? = w.heap[k]?) (hX : ∀k,X k->X1 k):NodeOk w1 X1 o r:=by
 cases o with
 | none=>exact h
 | some n=>exact ⟨h.1.step hk hX,h.2⟩
def OwnQ (q:Nat) (vl:Value) (k:Nat):Prop:=k=q\/some k=vl.ownBlock
structure RefV (w:World) (base q:Nat) (size most:Int) (vl:Value) (X:Nat->Prop) (rows:List (List Value)) (cs:Cs):Prop where
 blk:QBlk w q size most vl
 cells:RowsR w base vl rows
 len:rows.length=cs.length
 row : ∀(i:Nat) (o:Option Nd) (r:List Value),cs[i]? = some o->rows[i]? = some r->NodeOk w X o r
 sep : ∀k,X k->k<w.heap.size/\¬OwnQ q vl k
structure RefM (w:World) (base q:Nat) (size most:Int) (vl:Value) (X:Nat->Prop) (cs:Cs):Prop where
 mem : ∃rows,RefV w base q size most vl X rows cs
 hb:base<=q
 hs:1<=size/\size<=32
 hr:1<=most/\most<=4194304
 hl:(cs.length:Int)<=most
theorem RefV.own_lt {w:World} {base q:Nat} {size most:Int} {vl:Value} {X:Nat->Prop} {rows:List (List Value)} {cs:Cs} (h:RefV w base q size most vl X rows cs) (k:Nat) (hk:OwnQ q vl k):k<w.heap.size:=by
 rcases hk with rfl|hk
 ·exact h.blk.lt
 ·exact YtdeneoknjeegbaaGreatDoorW.PrintWords.own_lt (Kd.R_own h.cells).choose_spec k hk.symm
theorem RefV.step {w w1:World} {base q:Nat} {size most:Int} {vl:Value} {X X1:Nat->Prop} {rows:List (List Value)} {cs:Cs} (hv:RefV w base q size most vl X rows cs) (hs:w.heap.size<=w1.heap.size) (hk : ∀k,k<w.heap.size->OwnQ q vl k\/X k->w1.heap[k]? = w.heap[k]?) (hX : ∀k,X k->X1 k) (hX1 : ∀k,X1 k->k<w1.heap.size/\¬OwnQ q vl k):RefV w1 base q size most vl X1 rows cs:=by
 refine ⟨(hk q hv.blk.lt (.inl (.inl rfl))).trans hv.blk,?_,hv.len,fun i o r hi hr=>(hv.row i o r hi hr).step (fun k hx hl=>hk k hl (.inr hx)) hX,hX1⟩
 exact Kd.R_mono (Kd.R_step (Kd.R_reok (ok:=fun k=>some k=vl.ownBlock) rfl hv.cells (fun k e=>e.symm)) (fun k hx hl=>hk k hl (.inl (.inr hx)))) (fun _ _=>trivial)
theorem RefV.below {w w1:World} {base q:Nat} {size most:Int} {vl:Value} {X:Nat->Prop} {rows:List (List Value)} {cs:Cs} (hv:RefV w base q size most vl X rows cs) (hb:Below w.heap.size w w1):RefV w1 base q size most vl X rows cs:=
 hv.step hb.size (fun k hk _=>hb.block k hk) (fun _ h=>h) (fun k hx=>⟨Nat.lt_of_lt_of_le (hv.sep k hx).1 hb.size,(hv.sep k hx).2⟩)
theorem RefM.step {w w1:World} {base q:Nat} {size most:Int} {vl:Value} {X X1:Nat->Prop} {cs:Cs} (h:RefM w base q size most vl X cs) (hs:w.heap.size<=w1.heap.size) (hk : ∀k,k<w.heap.size->OwnQ q vl k\/X k->w1.heap[k]? = w.heap[k]?) (hX : ∀k,X k->X1 k) (hX1 : ∀k,X1 k->k<w1.heap.size/\¬OwnQ q vl k):RefM w1 base q size most vl X1 cs:=by
 obtain ⟨rows,hv⟩:=h.mem
 exact ⟨⟨rows,hv.step hs hk hX hX1⟩,h.hb,h.hs,h.hr,h.hl⟩
theorem RefM.below {w w1:World} {base q:Nat} {size most:Int} {vl:Value} {X:Nat->Prop} {cs:Cs} (h:RefM w base q size most vl X cs) (hb:Below w.heap.size w w1):RefM w1 base q size most vl X cs:=by
 obtain ⟨rows,hv⟩:=h.mem
 exact h.step hb.size (fun k hk _=>hb.block k hk) (fun _ h=>h) (fun k hx=>⟨Nat.lt_of_lt_of_le (hv.sep k hx).1 hb.size,(hv.sep k hx).2⟩)
theorem RefM.base_le {w:World} {base q:Nat} {size most:Int} {vl:Value} {X:Nat->Prop} {cs:Cs} (h:RefM w base q size most vl X cs):base<=w.heap.size/\q<w.heap.size:=by
 obtain ⟨rows,hv⟩:=h.mem
 have:=hv.blk.lt
 have:=h.hb
 omega
def RefP (w w':World) (base q:Nat) (size most:Int) (vl:Value) (X:Nat->Prop) (cs:Cs):Prop:=
 ∃vl' X',RefM w' base q size most vl' X' cs/\Grew w (OwnQ q vl) (OwnQ q vl')/\Grew w X X'/\Kept w w' (OwnQ q vl)/\Below base w w'
theorem RefP.of_below {w w':World} {base q:Nat} {size most:Int} {vl:Value} {X:Nat->Prop} {cs:Cs} (h:RefM w base q size most vl X cs) (hb:Below w.heap.size w w'):RefP w w' base q size most vl X cs:=
 ⟨vl,X,h.below hb,Grew.refl _ _,Grew.refl _ _,Kept.of_below hb _,hb.mono h.base_le.1⟩
theorem RefP.start {w w1 w':World} {base q:Nat} {size most:Int} {vl:Value} {X X1:Nat->Prop} {cs:Cs} (h:RefP w1 w' base q size most vl X1 cs) (hX:Grew w X X1) (hB:Below w.heap.size w w1) (hb:base<=w.heap.size):RefP w w' base q size most vl X cs:=by
 obtain ⟨vl',X',hM,h1,h2,h3,h4⟩:=h
 exact ⟨vl',X',hM,fun k hk=>(h1 k hk).imp id (fun h=>Nat.le_trans hB.size h),hX.trans h2 hB.size,(Kept.of_below hB _).then_ h3 (fun k hk=>.inl hk),(hB.mono hb).trans h4⟩
set_option maxRecDepth 100000 in
theorem rthere_off {w:World} {q:Nat} {size most:Int} {A:Option Addr} {n c:Nat} (h:QBlk w q size most (.slice A n c)) (i:Int) (hi:i<0\/(n:Int)<=i):
 Calls Tryz.prog 40 #[.pointer (some ⟨q,0,none⟩),.int .i64 i] w fun e w'=>e = .returned (.bool false)/\w=w':=by
 obtain ⟨k0,k1,k2⟩:=h.cells
 by_cases h0:i<0
 ·have hd:decide (i>=0)=false:=decide_eq_false (by omega)
  clear h hi
  go_enter Tryz.func40,Tryz.ntmps40
  go_wp2_with fail
  go_ret
  exact ⟨rfl,rfl⟩
 ·have hd:decide (i>=0)=true:=decide_eq_true (by omega)
  have hd2:decide (i<(n:Int))=false:=decide_eq_false (by omega)
  clear h hi
  go_enter Tryz.func40,Tryz.ntmps40
  go_wp2_with fail
  go_ret
  exact ⟨rfl,rfl⟩
set_option maxRecDepth 100000 in
theorem rthere_at {w:World} {q:Nat} {size most:Int} {g n c:Nat} (h:QBlk w q size most (.slice (some ⟨g,0,none⟩) n c)) (k:Nat) (hk:k<n) (B:Option Addr) (m d:Nat) (hc:w.cell? ⟨g,k*10+9,none⟩=some (.slice B m d)):
 Calls Tryz.prog 40 #[.pointer (some ⟨q,0,none⟩),.int .i64 (k:Int)] w fun e w'=>e = .returned (.bool (decide (0<m)))/\w=w':=by
 obtain ⟨k0,k1,k2⟩:=h.cells
 have hd:decide ((k:Int)>=0)=true:=decide_eq_true (by omega)
 have hd2:decide ((k:Int)<(n:Int))=true:=decide_eq_true (by omega)
 have hk3:(k:Int)<(n:Int):=by omega
 have hk5:0<=(k:Int):=by omega
 clear h
 go_enter Tryz.func40,Tryz.ntmps40
 go_wp2_with fail
 go_ret
 exact ⟨rfl,rfl⟩
theorem rthere_calls {w:World} {base q:Nat} {size most:Int} {vl:Value} {X:Nat->Prop} {cs:Cs} (h:RefM w base q size most vl X cs) (i:Int):
 Calls Tryz.prog 40 #[.pointer (some ⟨q,0,none⟩),.int .i64 i] w fun e w'=>e = .returned (.bool (nodeAt cs i).isSome)/\w=w':=by
 obtain ⟨rows,hv⟩:=h.mem
 have hlen:=hv.len
 obtain ⟨A,c,rfl⟩:=Kd.R_slice hv.cells
 by_cases h0:i<0
 ·refine (rthere_off hv.blk i (.inl h0)).mono ?_
  rintro e w' ⟨rfl,rfl⟩
  exact ⟨by unfold nodeAt;rw [if_neg (by omega)];rfl,rfl⟩
 by_cases h1:(rows.length:Int)<=i
 ·refine (rthere_off hv.blk i (.inr h1)).mono ?_
  rintro e w' ⟨rfl,rfl⟩
  exact ⟨by unfold nodeAt;rw [if_pos (by omega),List.getElem?_eq_none (by omega)];rfl,rfl⟩
 obtain ⟨k,rfl⟩ : ∃k:Nat,i=(k:Int):=⟨i.toNat,by omega⟩
 have hk:k<rows.length:=by omega
 have hro:rows[k]? = some rows[k]:=List.getElem?_eq_getElem hk
 obtain ⟨o,ho⟩ : ∃o,cs[k]? = some o:=⟨_,List.getElem?_eq_getElem (by omega)⟩
 have hok:=hv.row k o _ ho hro
 obtain ⟨_,g,c',e,hc⟩:=raw_row10 hv.cells k _ hro
 injection e with e1 e2 e3
 subst e1
 have hn:nodeAt cs (k:Int)=o:=by
  unfold nodeAt
  rw [if_pos (by omega),Int.toNat_natCast,ho]
  rfl
 rw [hn]
 cases o with
 | none=>
   have hr:rows[k]=node0:=hok
   refine (rthere_at hv.blk k hk none 0 0 (hc 9 _ (by rw [hr];rfl))).mono ?_
   rintro e w' ⟨rfl,rfl⟩
   exact ⟨rfl,rfl⟩
 | some n=>
   obtain ⟨⟨A1,A2,A5,A9,c1,c2,c5,c9,hr,_⟩,h9⟩:=hok
   refine (rthere_at hv.blk k hk A9 n.f9.length c9 (hc 9 _ (by rw [hr];rfl))).mono ?_
   rintro e w' ⟨rfl,rfl⟩
   exact ⟨by rw [decide_eq_true h9];rfl,rfl⟩
theorem usedN_take : ∀(cs:Cs) (j:Nat) (o:Option Nd),cs[j]? = some o->usedN (cs.take (j+1))=usedN (cs.take j)+(if o.isSome then 1 else 0)
 | [],j,o,h=>by simp at h
 | x :: r,0,o,h=>by
   obtain rfl:x=o:=by simpa using h
   cases x<;>rfl
 | none :: r,j+1,o,h=>by
   simp only [List.take_succ_cons,usedN]
   exact usedN_take r j o (by simpa using h)
 | some _ :: r,j+1,o,h=>by
   simp only [List.take_succ_cons,usedN]
   rw [usedN_take r j o (by simpa using h)]
   omega
theorem nodeAt_get {cs:Cs} {j:Nat} {o:Option Nd} (h:cs[j]? = some o):nodeAt cs (j:Int)=o:=by
 unfold nodeAt
 rw [if_pos (by omega),Int.toNat_natCast,h]
 rfl
set_option maxHeartbeats 4000000 in
set_option maxRecDepth 100000 in
theorem rused_calls {w:World} {base q:Nat} {size most:Int} {vl:Value} {X:Nat->Prop} {cs:Cs} (h:RefM w base q size most vl X cs):
 Calls Tryz.prog 15 #[.pointer (some ⟨q,0,none⟩)] w fun e w'=>e = .returned (.int .i64 (usedN cs:Int))/\w=w':=by
 have HM:=z_ h
 obtain ⟨rows,hv⟩:=h.mem
 obtain ⟨A,c,rfl⟩:=Kd.R_slice hv.cells
 obtain ⟨n,hn⟩ : ∃n,n=rows.length:=⟨_,rfl⟩
 have HN:=z_ (show n=cs.length/\n<=4194304 from ⟨hn.trans hv.len,by have:=hv.len;have:=h.hl;have:=h.hr;omega⟩)
 have hb:=hv.blk
 rw [<-hn] at hb
 obtain ⟨k0,k1,k2⟩:=hb.cells
 clear h hv hb hn
 go_enter Tryz.func15,Tryz.ntmps15
 go_wp2_with fail
 go_loopw [3,10] (fun v3 v10 wr=>∃j:Nat,j<=n/\v10 = .int .i64 (j:Int)/\v3 = .int .i64 (usedN (cs.take j):Int)/\w=wr) (fun _ v10 _=>n-(intOf v10).toNat)
 case atStart=>exact ⟨0,by omega,rfl,rfl,rfl⟩
 case round=>
  obtain ⟨j,hj,rfl,rfl,rfl⟩:=hrel
  obtain ⟨u,hu⟩ : ∃u,u=usedN (cs.take j):=⟨_,rfl⟩
  have HU:=z_ (show u=usedN (cs.take j)/\u<=j from ⟨hu,by rw [hu];have h1:=usedN_le (cs.take j);have h2:=List.length_take_le j cs;omega⟩)
  rw [<-hu]
  clear hu
  by_cases h0:j<n
  ·have hd:decide ((j:Int)<(n:Int))=true:=decide_eq_true (by omega)
   have hw:wrap64 ((j:Int)+1)=((j+1:Nat):Int):=by unfold wrap64;have:=HN.out;omega
   have hw2:wrap64 ((u:Int)+1)=((u+1:Nat):Int):=by unfold wrap64;have:=HN.out;have:=HU.out;omega
   obtain ⟨o,ho⟩ : ∃o,cs[j]? = some o:=⟨_,List.getElem?_eq_getElem (by have:=HN.out;omega)⟩
   have HT:=z_ (usedN_take cs j o ho)
   obtain ⟨b,hb⟩ : ∃b,b=o.isSome:=⟨_,rfl⟩
   have HB:=z_ hb
   have HTH:=z_ (show Calls Tryz.prog 40 #[.pointer (some ⟨q,0,none⟩),.int .i64 (j:Int)] w fun e w'=>e = .returned (.bool b)/\w=w' from by
    have:=rthere_calls HM.out (j:Int)
    rwa [nodeAt_get ho,<-hb] at this)
   clear ho hb
   go_wp2_with fail
   refine HTH.out.mono ?_
   rintro e w' ⟨rfl,rfl⟩
   cases b with
   | true=>
     go_wp2_with fail
     go_roundw
     case measure=>
      rw [hw]
      simp only [intOf,Int.toNat_natCast]
      omega
     case rel=>exact ⟨j+1,by omega,by rw [hw],by rw [hw2,HT.out,HU.out.1,<-HB.out,if_pos rfl],trivial⟩
   | false=>
     go_wp2_with fail
     go_roundw
     case measure=>
      rw [hw]
      simp only [intOf,Int.toNat_natCast]
      omega
     case rel=>exact ⟨j+1,by omega,by rw [hw],by rw [HT.out,HU.out.1,<-HB.out,if_neg (by decide)];rfl,trivial⟩
  ·obtain rfl:j=n:=by omega
   have hd:decide ((j:Int)<(j:Int))=false:=decide_eq_false (by omega)
   clear h0 hj
   go_wp2_with fail
   go_ret
   exact ⟨by rw [HU.out.1,List.take_of_length_le (by have:=HN.out;omega)];rfl,rfl⟩
def rput_T10:Bool×List (List Nat×List Nat):=(true,[([],[]),([],[]),([1],[1]),([2],[2]),([3],[3]),([],[]),([5],[5]),([4,6],[4,6]),([0,0,1,2,3,4,5,6,7],[0]),([8,0,1,2,3,4,5,6,7],[8]),([9,7,7,0,1,2,3,4,5,6,7],[7,9])])
def rput_B10:List Nat:=[0,0,2,6,14,0,32,126,255,511,1023]
theorem rput_tab10:rtab .any (opsOf Tryz.f64 10)=rput_T10:=by kernel_rfl
theorem rput_bits10:waitsOk rput_T10.2 rput_B10=true:=by kernel_rfl
theorem QBlk.set2 {w:World} {q:Nat} {size most:Int} {vl:Value} (h:QBlk w q size most vl) (v:Value):QBlk (w.setCell ⟨q,2,none⟩ v) q size most v:=by
 unfold QBlk at *
 rw [blk_set h 2 v]
 rfl
theorem row_step {ops:Array Oper} {rest:List Oper} {o:Oper} {a:Act} {Q:Exit->Act->World->Prop} {W:World} (base:Nat) (hN:o.dst=none) (hgd:o.guard=none) (p x:Operand) (ho:o.op = .store 59 p x) {g n cap:Nat} (j:Nat) (rows:List (List Value)) (r:List Value) (u:Value)
 (haddr:a.eval p = .pointer (some ⟨g,j*10,none⟩)) (hx:a.eval x=u) (hu:u.cells.toList=r) (hrl:r.length=10) (h1 : ∀q∈r,q.oneCell'=true) (HO:RowsR W base (.slice (some ⟨g,0,none⟩) n cap) rows) (hj:j<n)
 (h : ∀w1,RowsR w1 base (.slice (some ⟨g,0,none⟩) n cap) (rows.set j r)->Below base W w1->W.grownBy w1 (some g)->wpList Tryz.prog ops Q rest a w1):wpList Tryz.prog ops Q (o :: rest) a W:=by
 have hn:=(Kd.R_reads' HO).1
 have hro:rows[j]? = some (rows[j]'(by omega)):=List.getElem?_eq_getElem (by omega)
 obtain ⟨hl10,g',c',e,hc⟩:=raw_row10 HO j _ hro
 injection e with e1 e2 e3
 injection e1 with e1
 injection e1 with e1
 subst e1
 refine Kd.R_store (Kd.raw 10) (w0:=W) base hN hgd 59 p x ho 59 (g:=g) (n:=n) (cap:=cap) (o':=j*10) (j:Int) 0 rows r u r (rows[j]'(by omega)) (fun _=>True) (fun _=>False) haddr (by rw [Int.toNat_natCast];rfl) hx hu (by rw [hrl];kernel_rfl) h1 HO (by omega) (by omega) hl10 (fun jj u hu=>?_) (by rw [hrl];exact Nat.le_refl 10) ?_ (fun _ h=>h.elim) (Below.refl _ _) (fun w1 hR hB hg=>?_)
 ·rw [Int.toNat_natCast]
  exact hc jj u hu
 ·have h2:(rows[j]'(by omega)).take 0++r++(rows[j]'(by omega)).drop (0+r.length)=r:=by
   rw [List.drop_of_length_le (by omega)]
   simp
  rw [h2]
  exact ⟨rfl,hrl,h1⟩
 ·rw [Int.toNat_natCast] at hR
  exact h w1 hR hB hg
theorem RefM.putAt {w w1:World} {base q:Nat} {size most:Int} {vl:Value} {X:Nat->Prop} {rows:List (List Value)} {cs:Cs} (h:RefM w base q size most vl X cs) (hv:RefV w base q size most vl X rows cs) (n:Nd) (r:List Value) (hlt:lowN cs<cs.length) (hrow:NodeOk w X (some n) r) (hR:RowsR w1 base vl (rows.set (lowN cs) r)) (hg:w.grownBy w1 vl.ownBlock) (hB:Below base w w1):RefP w w1 base q size most vl X (putC cs n):=by
 have hqv:some q≠vl.ownBlock:=Kd.R_ne hv.cells hv.blk (by decide)
 have hT:Kept w w1 (OwnQ q vl):=⟨hg.size,fun x hx hn=>hg.block x hx (fun e=>hn (.inr e))⟩
 have hXs : ∀k,X k->k<w.heap.size->w1.heap[k]? = w.heap[k]? := fun k hx hl=>hT.2 k hl (hv.sep k hx).2
 refine ⟨vl,X,⟨⟨_,(hg.block q hv.blk.lt hqv).trans hv.blk,hR,?_,?_,fun k hx=>⟨Nat.lt_of_lt_of_le (hv.sep k hx).1 hg.size,(hv.sep k hx).2⟩⟩,h.hb,h.hs,h.hr,?_⟩,Grew.refl _ _,Grew.refl _ _,hT,hB⟩
 ·unfold putC
  rw [if_pos hlt,List.length_set,List.length_set,hv.len]
 ·intro i o r' hi hro
  unfold putC at hi
  rw [if_pos hlt] at hi
  by_cases hie:i=lowN cs
  ·subst hie
   rw [List.getElem?_set_self hlt] at hi
   rw [List.getElem?_set_self (by rw [hv.len];exact hlt)] at hro
   obtain rfl:=Option.some.inj hi
   obtain rfl:=Option.some.inj hro
   exact hrow.step hXs (fun _ h=>h)
  ·rw [List.getElem?_set_ne (Ne.symm hie)] at hi
   rw [List.getElem?_set_ne (Ne.symm hie)] at hro
   exact (hv.row i o r' hi hro).step hXs (fun _ h=>h)
 ·rw [putC_length,if_pos hlt]
  exact h.hl
theorem RefM.putEnd {w w1:World} {base q:Nat} {size most:Int} {vl v1:Value} {X:Nat->Prop} {rows:List (List Value)} {cs:Cs} (h:RefM w base q size most vl X cs) (hv:RefV w base q size most vl X rows cs) (n:Nd) (r:List Value) (hlow:lowN cs=cs.length) (hroom:(cs.length:Int)<most) (hrow:NodeOk w X (some n) r) (hb1:QBlk w1 q size most v1) (hR:RowsR w1 base v1 (rows++[r])) (hat:v1.ownBlock=vl.ownBlock\/∃b,v1.ownBlock=some b/\w.heap.size<=b) (hk:Kept w w1 (OwnQ q vl)) (hB:Below base w w1):RefP w w1 base q size most vl X (putC cs n):=by
 have hgr:Grew w (OwnQ q vl) (OwnQ q v1):=fun x hx=>by
  rcases hx with hx|hx
  ·exact .inl (.inl hx)
  ·rcases hat with h1|⟨b,h1,h2⟩
   ·exact .inl (.inr (hx.trans h1))
   ·rw [h1] at hx
    obtain rfl:=Option.some.inj hx
    exact .inr h2
 have hXs : ∀k,X k->k<w.heap.size->w1.heap[k]? = w.heap[k]? := fun k hx hl=>hk.2 k hl (hv.sep k hx).2
 have hlen:=hv.len
 refine ⟨v1,X,⟨⟨_,hb1,hR,?_,?_,fun k hx=>⟨Nat.lt_of_lt_of_le (hv.sep k hx).1 hk.1,fun ho=>(hgr k ho).elim (hv.sep k hx).2 (fun h1=>by have:=(hv.sep k hx).1;omega)⟩⟩,h.hb,h.hs,h.hr,?_⟩,hgr,Grew.refl _ _,hk,hB⟩
 ·unfold putC
  rw [if_neg (by omega)]
  simp [hlen]
 ·intro i o r' hi hro
  unfold putC at hi
  rw [if_neg (by omega)] at hi
  rcases Nat.lt_or_ge i cs.length with h2|h2
  ·rw [List.getElem?_append_left h2] at hi
   rw [List.getElem?_append_left (by omega)] at hro
   exact (hv.row i o r' hi hro).step hXs (fun _ h=>h)
  ·rw [List.getElem?_append_right h2] at hi
   rw [List.getElem?_append_right (by omega)] at hro
   have h3:i-cs.length=0:=by
    rcases Nat.eq_zero_or_pos (i-cs.length) with h3|h3
    ·exact h3
    ·rw [List.getElem?_eq_none (by simp;omega)] at hi
     cases hi
   rw [h3] at hi
   rw [hlen,h3] at hro
   obtain rfl:some n=o:=by simpa using hi
   obtain rfl:=Option.some.inj hro
   exact hrow.step hXs (fun _ h=>h)
 ·rw [putC_length,if_neg (by omega)]
  omega
theorem lowN_some : ∀(cs:Cs) (j:Nat),j<lowN cs->∃n,cs[j]? = some (some n)
 | [],j,h=>by simp [lowN] at h
 | none :: r,j,h=>by simp [lowN] at h
 | some x :: r,0,h=>⟨x,rfl⟩
 | some _ :: r,j+1,h=>by
   simp only [lowN] at h
   simp only [List.getElem?_cons_succ]
   exact lowN_some r j (by omega)
theorem usedN_full : ∀cs:Cs,lowN cs=cs.length->usedN cs=cs.length
 | [],_=>rfl
 | none :: r,h=>by simp [lowN] at h
 | some _ :: r,h=>by
   simp only [lowN,List.length_cons] at h
   simp only [usedN,List.length_cons]
   rw [usedN_full r (by omega)]
structure RPutPost (w w':World) (base q:Nat) (size most:Int) (vl:Value) (X:Nat->Prop) (cs:Cs) (n:Nd) (e:Ending):Prop where
 full:(usedN cs:Int)=most->e = .returned (.tuple #[.int .i64 0,.int .i64 4])/\RefP w w' base q size most vl X cs
 more:(usedN cs:Int)≠most->e = .returned (.tuple #[.int .i64 (lowN cs:Int),.int .i64 0])/\RefP w w' base q size most vl X (putC cs n)
set_option maxHeartbeats 8000000 in
set_option maxRecDepth 100000 in
theorem rput_calls {w:World} {base q:Nat} {size most:Int} {vl:Value} {X:Nat->Prop} {cs:Cs} (h:RefM w base q size most vl X cs) (n:Nd) (h9:0<n.f9.length) (A1 A2 A5 A9:Option Addr) (c1 c2 c5 c9:Nat)
 (b1:BX w X (.slice A1 n.f1.length c1) n.f1) (b2:BX w X (.slice A2 n.f2.length c2) n.f2) (b5:BX w X (.slice A5 n.f5.length c5) n.f5) (b9:BX w X (.slice A9 n.f9.length c9) n.f9):
 Calls Tryz.prog 64 #[.pointer (some ⟨q,0,none⟩),.agg #[.bool n.f0,.slice A1 n.f1.length c1,.slice A2 n.f2.length c2,.int .i64 n.f3,.int .i64 n.f4,.slice A5 n.f5.length c5,.int .i64 n.f6,.int .i64 n.f7,.int .i64 n.f8,.slice A9 n.f9.length c9]] w
  fun e w'=>RPutPost w w' base q size most vl X cs n e:=by
 have HM:=z_ h
 have HBW:=z_ h.base_le
 have hrow:NodeOk w X (some n) [.bool n.f0,.slice A1 n.f1.length c1,.slice A2 n.f2.length c2,.int .i64 n.f3,.int .i64 n.f4,.slice A5 n.f5.length c5,.int .i64 n.f6,.int .i64 n.f7,.int .i64 n.f8,.slice A9 n.f9.length c9]:=⟨⟨A1,A2,A5,A9,c1,c2,c5,c9,rfl,b1,b2,b5,b9⟩,h9⟩
 have HROW:=z_ hrow
 have HONE:=z_ (show ∀q∈([.bool n.f0,.slice A1 n.f1.length c1,.slice A2 n.f2.length c2,.int .i64 n.f3,.int .i64 n.f4,.slice A5 n.f5.length c5,.int .i64 n.f6,.int .i64 n.f7,.int .i64 n.f8,.slice A9 n.f9.length c9]:List Value),q.oneCell'=true from by intro q hq;simp only [List.mem_cons,List.not_mem_nil,or_false] at hq;rcases hq with rfl|rfl|rfl|rfl|rfl|rfl|rfl|rfl|rfl|rfl<;>rfl)
 have HL:=z_ (show cs.length<=4194304/\usedN cs<=cs.length from ⟨by have:=h.hl;have:=h.hr;omega,usedN_le cs⟩)
 obtain ⟨u,hu⟩ : ∃u,u=usedN cs:=⟨_,rfl⟩
 have HU:=z_ hu
 clear h b1 b2 b5 b9 hrow h9 hu
 go_enter Tryz.func64,Tryz.ntmps64
 go_wp2_with fail
 obtain ⟨W1,hW1⟩ : ∃W1,W1=w.alloc (.cells #[.bool n.f0,.slice A1 n.f1.length c1,.slice A2 n.f2.length c2,.int .i64 n.f3,.int .i64 n.f4,.slice A5 n.f5.length c5,.int .i64 n.f6,.int .i64 n.f7,.int .i64 n.f8,.slice A9 n.f9.length c9] 59):=⟨_,rfl⟩
 rw [<-hW1]
 have hb1:Below w.heap.size w W1:=by rw [hW1];exact below_alloc (Below.refl _ _) _
 obtain ⟨gb,hgb⟩ : ∃gb,gb=w.heap.size:=⟨_,rfl⟩
 have HGB0:=z_ hgb
 have HN1:=z_ (show W1.heap[gb]? = some (.cells #[.bool n.f0,.slice A1 n.f1.length c1,.slice A2 n.f2.length c2,.int .i64 n.f3,.int .i64 n.f4,.slice A5 n.f5.length c5,.int .i64 n.f6,.int .i64 n.f7,.int .i64 n.f8,.slice A9 n.f9.length c9] 59 (0,0)) from by rw [hW1,hgb];exact heap_alloc_new w _)
 have HB1:=z_ hb1
 have HM1:=z_ (HM.out.below hb1)
 rw [<-hgb]
 clear hgb hW1 hb1
 have HUC:=z_ (show ∀m,Calls Tryz.prog 15 #[.pointer (some ⟨q,0,none⟩)] (W1.drewN m) fun e w'=>e = .returned (.int .i64 (u:Int))/\Drawn0 (W1.drewN m) w' from fun m=>by
  rw [HU.out]
  refine (rused_calls (w:=W1.drewN m) (HM1.out.below (pw_below_drewN (Below.refl _ _) m))).mono ?_
  rintro e w' ⟨rfl,rfl⟩
  exact ⟨rfl,⟨0,rfl⟩⟩)
 obtain ⟨rows,hv⟩:=HM1.out.mem
 obtain ⟨A,c,hvl⟩:=Kd.R_slice hv.cells
 obtain ⟨m,hm⟩ : ∃m,m=rows.length:=⟨_,rfl⟩
 rw [<-hm] at hvl
 have HML:=z_ (show m=cs.length/\m=rows.length/\m<=4194304 from ⟨hm.trans hv.len,hm,by have:=hv.len;have:=HL.out;omega⟩)
 have HV:=z_ hv
 have HVL:=z_ hvl
 have hb:=hv.blk
 rw [hvl] at hb
 have HQ:=z_ hb
 obtain ⟨k0,k1,k2⟩:=hb.cells
 have HGV:=z_ (show some gb≠vl.ownBlock from fun e=>by
  have h1:=HGB0.out
  obtain ⟨rows0,hv0⟩:=HM.out.mem
  have:=hv0.own_lt gb (.inr e)
  omega)
 clear hm hvl hb hv
 go_quiet ((go_at_call 15;(first|with_reducible exact drawn2_quiet (HUC.out _)|with_reducible exact drawn1_quiet (HUC.out _)|exact drawn0_quiet (HUC.out 0))))
 by_cases hfull:(u:Int)=most
 ·have hd:decide ((u:Int)>=most)=true:=decide_eq_true (by omega)
  have hd2:decide (most<=(u:Int))=true:=decide_eq_true (by omega)
  have HF:=z_ hfull
  have hle:most<=(u:Int):=by omega
  clear hfull
  go_wp2_with fail
  go_ret2
  refine ⟨fun _=>⟨rfl,RefP.of_below HM.out ?_⟩,fun hn=>absurd (by rw [<-HU.out];exact HF.out) hn⟩
  first|exact HB1.out|exact pw_below_drewN HB1.out _
 ·have hlt:(u:Int)<most:=by have h1:=HL.out;have h2:=HM.out.hl;have:=HU.out;omega
  have hd:decide ((u:Int)>=most)=false:=decide_eq_false (by omega)
  have hd2:decide (most<=(u:Int))=false:=decide_eq_false (by omega)
  have HNF:=z_ hfull
  clear hfull
  go_wp2_with fail
  obtain ⟨W2,hW2⟩ : ∃W2,W2=W1.drewN nq:=⟨_,rfl⟩
  rw [<-hW2]
  have hb2:Below W1.heap.size W1 W2:=by rw [hW2];exact pw_below_drewN (Below.refl _ _) _
  have HM2:=z_ (HM1.out.below hb2)
  have HV2:=z_ (show RefV W2 base q size most vl X rows cs from HV.out.below hb2)
  have HQ2:=z_ (HQ.out.below hb2)
  have HN2:=z_ (blk_below HN1.out hb2)
  have HB2:=z_ (show Below w.heap.size w W2 from HB1.out.trans (hb2.mono HB1.out.size))
  clear hW2 hb2 HUC HM1 HV HQ HN1 HB1 k0 k1 k2 hd hd2
  obtain ⟨k0,k1,k2⟩:=HQ2.out.cells
  go_loopw [19] (fun v19 wr=>∃j:Nat,j<=lowN cs/\j<=m/\v19 = .int .i64 (j:Int)/\W2=wr) (fun v19 _=>m-(intOf v19).toNat)
  case atStart=>exact ⟨0,by omega,by omega,rfl,rfl⟩
  case round=>
   obtain ⟨j,hjl,hj,rfl,rfl⟩:=hrel
   by_cases h0:j<m
   ·have hdj:decide ((j:Int)<(m:Int))=true:=decide_eq_true (by omega)
    have hw:wrap64 ((j:Int)+1)=((j+1:Nat):Int):=by unfold wrap64;have:=HML.out;omega
    by_cases hl2:j<lowN cs
    ·obtain ⟨nd,hnd⟩:=lowN_some cs j hl2
     have HTH:=z_ (show Calls Tryz.prog 40 #[.pointer (some ⟨q,0,none⟩),.int .i64 (j:Int)] W2 fun e w'=>e = .returned (.bool true)/\W2=w' from by
      have:=rthere_calls HM2.out (j:Int)
      rwa [nodeAt_get hnd] at this)
     clear hnd
     go_wp2_with fail
     refine HTH.out.mono ?_
     rintro e w' ⟨rfl,rfl⟩
     go_wp2_with fail
     go_roundw
     case measure=>
      rw [hw]
      simp only [intOf,Int.toNat_natCast]
      omega
     case rel=>exact ⟨j+1,by omega,by omega,by rw [hw],trivial⟩
    ·obtain rfl:j=lowN cs:=by omega
     have hlc:lowN cs<cs.length:=by have:=HML.out;omega
     have HTH:=z_ (show Calls Tryz.prog 40 #[.pointer (some ⟨q,0,none⟩),.int .i64 (lowN cs:Int)] W2 fun e w'=>e = .returned (.bool false)/\W2=w' from by
      have:=rthere_calls HM2.out (lowN cs:Int)
      rwa [nodeAt_get (lowN_none cs hlc)] at this)
     have HLC:=z_ hlc
     obtain ⟨j,hje⟩ : ∃j,j=lowN cs:=⟨_,rfl⟩
     have HJE:=z_ hje
     rw [<-hje] at h0 hdj HTH ⊢
     clear hje hlc hl2 hjl hj hw
     go_wp2_with fail
     refine HTH.out.mono ?_
     rintro e w' ⟨rfl,rfl⟩
     go_wp2_with fail
     have hqq:(j:Int)<(m:Int):=by omega
     have hq0:0<=(j:Int):=by omega
     obtain ⟨g,hgA⟩ : ∃g,A=some ⟨g,0,none⟩:=by
      have hro:rows[j]? = some (rows[j]'(by have:=HML.out;omega)):=List.getElem?_eq_getElem _
      obtain ⟨_,g,c',e,_⟩:=raw_row10 HV2.out.cells j _ hro
      rw [HVL.out] at e
      injection e with e1 _ _
      exact ⟨g,e1⟩
     subst hgA
     refine still_tail_at 7 (by kernel_rfl) (by kernel_rfl) (fun W hW=>?_)
     have hbw:Below W2.heap.size W2 W:=by rw [hW];exact below_drew (Below.refl _ _)
     have HM3:=z_ (HM2.out.below hbw)
     have HV3:=z_ (HV2.out.below hbw)
     have HQ3:=z_ (HQ2.out.below hbw)
     have HN3:=z_ (blk_below HN2.out hbw)
     have HB3:=z_ (HB2.out.trans (hbw.mono HB2.out.size))
     clear hW hbw k0 k1 k2 h0 hdj
     obtain ⟨k0,k1,k2⟩:=HQ3.out.cells
     have m0:=blk_cell HN3.out 0
     have m1:=blk_cell HN3.out 1
     have m2:=blk_cell HN3.out 2
     have m3:=blk_cell HN3.out 3
     have m4:=blk_cell HN3.out 4
     have m5:=blk_cell HN3.out 5
     have m6:=blk_cell HN3.out 6
     have m7:=blk_cell HN3.out 7
     have m8:=blk_cell HN3.out 8
     have m9:=blk_cell HN3.out 9
     simp only [List.take_succ_cons,List.take_zero,List.drop_succ_cons,List.drop_zero]
     repeat still_step
     refine wpStill_nil ?_
     clear k0 k1 k2 m0 m1 m2 m3 m4 m5 m6 m7 m8 m9
     have hcells:=HV3.out.cells
     rw [HVL.out] at hcells
     refine row_step base rfl rfl (.tmp 32) (.tmp 31) rfl (g:=g) (n:=m) (cap:=c) j rows [.bool n.f0,.slice A1 n.f1.length c1,.slice A2 n.f2.length c2,.int .i64 n.f3,.int .i64 n.f4,.slice A5 n.f5.length c5,.int .i64 n.f6,.int .i64 n.f7,.int .i64 n.f8,.slice A9 n.f9.length c9] (.agg #[.bool n.f0,.slice A1 n.f1.length c1,.slice A2 n.f2.length c2,.int .i64 n.f3,.int .i64 n.f4,.slice A5 n.f5.length c5,.int .i64 n.f6,.int .i64 n.f7,.int .i64 n.f8,.slice A9 n.f9.length c9]) rfl rfl rfl rfl HONE.out hcells (by omega) (fun w4 hR4 hE4 hG4=>?_)
     rw [HJE.out] at hR4
     rw [show some g=vl.ownBlock from by rw [HVL.out,own_some]] at hG4
     rw [<-HVL.out] at hR4
     have hX3:NodeOk W X (some n) [.bool n.f0,.slice A1 n.f1.length c1,.slice A2 n.f2.length c2,.int .i64 n.f3,.int .i64 n.f4,.slice A5 n.f5.length c5,.int .i64 n.f6,.int .i64 n.f7,.int .i64 n.f8,.slice A9 n.f9.length c9]:=HROW.out.step (fun k hx hl=>HB3.out.block k hl) (fun _ h=>h)
     have HP:=z_ (RefM.putAt HM3.out HV3.out n _ HLC.out hX3 hR4 hG4 hE4)
     clear hR4 hE4 hG4 hX3 hcells
     go_wp2_with fail
     go_ret2
     refine ⟨fun hn=>absurd (by rw [HU.out];exact hn) HNF.out,fun _=>⟨by rw [HJE.out];rfl,?_⟩⟩
     exact RefP.start HP.out (Grew.refl _ _) HB3.out HBW.out.1
   ·obtain rfl:j=m:=by omega
    have hdj:decide ((j:Int)<(j:Int))=false:=decide_eq_false (by omega)
    have HLOW:=z_ (show lowN cs=cs.length from by have:=lowN_le cs;have:=HML.out;omega)
    have HR2:=z_ (show RowsR W2 base (.slice A j c) rows from by have:=HV2.out.cells;rwa [HVL.out] at this)
    have HROOM:=z_ (show (cs.length:Int)<most from by
     have h1:=usedN_full cs HLOW.out
     have:=HU.out
     omega)
    clear h0 hjl hj hdj hlt
    obtain ⟨m,hmj⟩ : ∃m,m=j:=⟨_,rfl⟩
    rw [<-hmj] at HML HVL HQ2 HR2 k2 ⊢
    have hdm:decide ((m:Int)<(m:Int))=false:=decide_eq_false (by omega)
    clear hmj
    go_wp2_with fail
    have hbd:=below_drew (Below.refl W2.heap.size W2)
    have HM3:=z_ (HQ2.out.below hbd)
    have HN3:=z_ (blk_below HN2.out hbd)
    have HR3:=z_ (Kd.R_below HR2.out hbd)
    have HB3:=z_ hbd
    have HGB:=z_ (show some gb≠(Value.slice A m c).ownBlock from by rw [<-HVL.out];exact HGV.out)
    clear hbd k0 k1 k2
    refine start_ (n:=11) (S:=fun w'=>w'.cell? ⟨q,2,none⟩=some (.slice A m c)/\w'.heap[gb]? = some (.cells #[.bool n.f0,.slice A1 n.f1.length c1,.slice A2 n.f2.length c2,.int .i64 n.f3,.int .i64 n.f4,.slice A5 n.f5.length c5,.int .i64 n.f6,.int .i64 n.f7,.int .i64 n.f8,.slice A9 n.f9.length c9] 59 (0,0))) (ds:=[10]) (bt_ 11 0) (by kernel_rfl) rfl rfl ⟨HM3.out.cells.2.2,HN3.out⟩ (fun hHeld=>?_);refine with_tabW rput_tab10 rput_bits10 (fun HT_ HW_=>?_)
    generalize hgw:W2.drew=w4 at HM3 HN3 HR3 HB3 hHeld ⊢
    clear hgw
    refine pure_ (i:=0) (N:=some 35) (v:=?_) (a':=?_) (bt_ 11 1) rfl rfl (any_of HT_.out (by kernel_rfl)) (fun _ _ _ h=>h) (Or.inl ⟨by rfl,?_⟩) ?_ ?_
    rotate_left
    ·intro w'
     go_simp
     with_reducible rfl
    rotate_left
    ·simp only [pq_]
     rfl
    refine pure_ (i:=1) (N:=some 36) (v:=?_) (a':=?_) (bt_ 11 3) rfl rfl (any_of HT_.out (by kernel_rfl)) (fun _ _ _ h=>h) (Or.inl ⟨by rfl,?_⟩) ?_ ?_
    rotate_left
    ·intro w'
     go_simp
     with_reducible rfl
    rotate_left
    ·simp only [pq_]
     rfl
    refine pure_ (i:=2) (N:=some 37) (v:=?_) (a':=?_) (bt_ 11 7) rfl rfl (any_of HT_.out (by kernel_rfl)) (fun _ _ _ h=>h) (Or.inl ⟨by rfl,?_⟩) ?_ ?_
    rotate_left
    ·intro w'
     go_simp
     with_reducible rfl
    rotate_left
    ·simp only [pq_]
     rfl
    refine pure_ (i:=3) (N:=some 38) (v:=?_) (a':=?_) (bt_ 11 15) rfl rfl (any_of HT_.out (by kernel_rfl)) (fun _ _ _ h=>h) (Or.inl ⟨by rfl,?_⟩) ?_ ?_
    rotate_left
    ·intro w'
     go_simp
     with_reducible rfl
    rotate_left
    ·simp only [pq_]
     rfl
    refine take_ (i:=4) (N:=some 39) (v:=?_) (a':=?_) (bt_ 11 31) rfl rfl (take_ofW HT_.out HW_.out (by kernel_rfl)) (fun _ _ _ h=>h) (Or.inl ⟨by rfl,?_⟩) hHeld ?_ ?_
    rotate_left
    ·rintro w' ⟨s0,s1⟩
     go_simp
     with_reducible rfl
    rotate_left
    ·simp only [pq_]
     rfl
    refine take_ (i:=5) (N:=some 40) (v:=?_) (a':=?_) (bt_ 11 63) rfl rfl (take_ofW HT_.out HW_.out (by kernel_rfl)) (fun _ _ _ h=>h) (Or.inl ⟨by rfl,?_⟩) hHeld ?_ ?_
    rotate_left
    ·rintro w' s_
     obtain ⟨s0,s1⟩:=s_
     have m0:=blk_cell s1 0
     have m1:=blk_cell s1 1
     have m2:=blk_cell s1 2
     have m3:=blk_cell s1 3
     have m4:=blk_cell s1 4
     have m5:=blk_cell s1 5
     have m6:=blk_cell s1 6
     have m7:=blk_cell s1 7
     have m8:=blk_cell s1 8
     have m9:=blk_cell s1 9
     go_simp
     with_reducible rfl
    rotate_left
    ·simp only [pq_]
     rfl
    refine one_ (i:=6) (N:=some 41) (bt_ 11 127) rfl rfl (one_of HT_.out (by kernel_rfl)) (by decide) (fun K hK=>?_)
    refine value_ (v:=.slice (some ⟨w4.heap.size,0,none⟩) 1 1) (w1:=w4.alloc (.cells #[.bool n.f0,.slice A1 n.f1.length c1,.slice A2 n.f2.length c2,.int .i64 n.f3,.int .i64 n.f4,.slice A5 n.f5.length c5,.int .i64 n.f6,.int .i64 n.f7,.int .i64 n.f8,.slice A9 n.f9.length c9] 59)) (by rfl) rfl ?_ ?_
    ·(go_simp<;>first|rfl|done)
    have hba:Below w4.heap.size w4 (w4.alloc (.cells #[.bool n.f0,.slice A1 n.f1.length c1,.slice A2 n.f2.length c2,.int .i64 n.f3,.int .i64 n.f4,.slice A5 n.f5.length c5,.int .i64 n.f6,.int .i64 n.f7,.int .i64 n.f8,.slice A9 n.f9.length c9] 59)):=below_alloc (Below.refl _ _) _
    refine hK.out _ _ ⟨(HM3.out.below hba).cells.2.2,blk_below HN3.out hba⟩ (fun hHeld=>?_)
    clear hK K
    refine norm_ (a':=?_) ?_ ?_
    rotate_left
    ·show Act.put _ (some 41) _=_
     simp only [pq_]
     rfl
    refine one_ (i:=7) (N:=some 42) (bt_ 11 255) rfl rfl (one_of HT_.out (by kernel_rfl)) (by decide) (fun K hK=>?_)
    refine Kd.R_append_step (Kd.raw 10) (w0:=w4) base (by rfl) (.tmp 39) (.tmp 41) 54 59 (.agg #[.bool false,.slice none 0 0,.slice none 0 0,.int .i64 0,.int .i64 0,.slice none 0 0,.int .i64 0,.int .i64 0,.int .i64 0,.slice none 0 0]) 144 rfl Tryz.underlying54 (by kernel_rfl) rfl (by decide) (by omega) (.slice A m c) rows [.bool n.f0,.slice A1 n.f1.length c1,.slice A2 n.f2.length c2,.int .i64 n.f3,.int .i64 n.f4,.slice A5 n.f5.length c5,.int .i64 n.f6,.int .i64 n.f7,.int .i64 n.f8,.slice A9 n.f9.length c9] [.bool n.f0,.slice A1 n.f1.length c1,.slice A2 n.f2.length c2,.int .i64 n.f3,.int .i64 n.f4,.slice A5 n.f5.length c5,.int .i64 n.f6,.int .i64 n.f7,.int .i64 n.f8,.slice A9 n.f9.length c9] (fun _=>True) (fun _=>False) rfl rfl ?aP (fun _ h=>h.elim) ?aF ?aO ?aB ?aS ?aL ?_
    case aP=>exact ⟨rfl,rfl,HONE.out⟩
    case aF=>exact (fun _ _=>trivial)
    case aO=>exact HR3.out
    case aB=>exact Below.refl _ _
    case aS=>have:=HB3.out.size;have:=HB2.out.size;have:=HBW.out;omega
    case aL=>have:=HML.out;omega
    intro v1 w6 ho hb2 hg hat
    obtain ⟨B,d,rfl⟩:=Kd.R_slice ho
    obtain ⟨kl,hkl⟩ : ∃kl,kl=(rows++([[.bool n.f0,.slice A1 n.f1.length c1,.slice A2 n.f2.length c2,.int .i64 n.f3,.int .i64 n.f4,.slice A5 n.f5.length c5,.int .i64 n.f6,.int .i64 n.f7,.int .i64 n.f8,.slice A9 n.f9.length c9]]:List (List Value))).length:=⟨_,rfl⟩
    rw [<-hkl] at ho hat
    rw [<-hkl]
    have HKL:=z_ hkl
    have HO:=z_ ho
    have HG6:=z_ hg
    have HAT:=z_ hat
    have HB6:=z_ hb2
    have HM6:=z_ (show QBlk w6 q size most (.slice A m c) from (hg.block q HM3.out.lt (Kd.R_ne HR3.out HM3.out (by decide))).trans HM3.out)
    have HN6:=z_ (show w6.heap[gb]? = some (.cells #[.bool n.f0,.slice A1 n.f1.length c1,.slice A2 n.f2.length c2,.int .i64 n.f3,.int .i64 n.f4,.slice A5 n.f5.length c5,.int .i64 n.f6,.int .i64 n.f7,.int .i64 n.f8,.slice A9 n.f9.length c9] 59 (0,0)) from (hg.block gb (blk_lt HN3.out) HGB.out).trans HN3.out)
    clear ho hb2 hg hat hkl
    refine hK.out _ _ ⟨HM6.out.cells.2.2,HN6.out⟩ (fun hHeld=>?_)
    clear hK K
    refine norm_ (a':=?_) ?_ ?_
    rotate_left
    ·show Act.put _ (some 42) _=_
     simp only [pq_]
     rfl
    refine pure_ (i:=8) (N:=some 43) (v:=?_) (a':=?_) (bt_ 11 511) rfl rfl (any_of HT_.out (by kernel_rfl)) (fun _ _ _ h=>h) (Or.inl ⟨by rfl,?_⟩) ?_ ?_
    rotate_left
    ·intro w'
     go_simp
     with_reducible rfl
    rotate_left
    ·simp only [pq_]
     rfl
    refine pure_ (i:=9) (N:=some 44) (v:=?_) (a':=?_) (bt_ 11 1023) rfl rfl (any_of HT_.out (by kernel_rfl)) (fun _ _ _ h=>h) (Or.inl ⟨by rfl,?_⟩) ?_ ?_
    rotate_left
    ·intro w'
     go_simp
     with_reducible rfl
    rotate_left
    ·simp only [pq_]
     rfl
    refine last_ (i:=10) (N:=none) (bt_ 11 2047) rfl rfl (one_of HT_.out (by kernel_rfl)) (by decide) (fun K hK=>?_)
    obtain ⟨w7,hw7⟩ : ∃w7,w7=w6.setCell ⟨q,2,none⟩ (.slice B kl d):=⟨_,rfl⟩
    have HM7:=z_ (show QBlk w7 q size most (.slice B kl d) from by rw [hw7];exact HM6.out.set2 _)
    have HR7:=z_ (show RowsR w7 base (.slice B kl d) (rows++([[.bool n.f0,.slice A1 n.f1.length c1,.slice A2 n.f2.length c2,.int .i64 n.f3,.int .i64 n.f4,.slice A5 n.f5.length c5,.int .i64 n.f6,.int .i64 n.f7,.int .i64 n.f8,.slice A9 n.f9.length c9]]:List (List Value))) from by rw [hw7];exact Kd.R_set HO.out HM6.out (by decide) 2 _)
    have HW7:=z_ hw7
    have k3:=HM6.out.cells.2.2
    have kf:=blk_frozen HM6.out 2
    refine skip_ (w1:=w7) (by rfl) rfl ?_ ?_
    ·(go_simp<;>first|rfl|(rw [hw7];rfl)|(subst hw7;rfl))
    clear k3 kf hw7 hHeld
    refine hK.out _ _ ?_
    clear hK K
    refine done_ (done_of HT_.out (by kernel_rfl)) ?_
    have hk7:(kl:Int)-1=(m:Int):=by have:=HKL.out;rw [List.length_append,List.length_singleton] at this;have:=HML.out;omega
    have hw:wrap64 (m:Int)=(m:Int):=by unfold wrap64;have:=HML.out;omega
    obtain ⟨k0,k1,k2⟩:=HM7.out.cells
    go_wp2_with fail
    go_ret2
    refine ⟨fun hn=>absurd (by rw [HU.out];exact hn) HNF.out,fun _=>⟨by rw [HLOW.out,<-HML.out.1];show Ending.returned (.tuple #[.int .i64 (wrap64 (m:Int)),.int .i64 0])=_;rw [hw],?_⟩⟩
    have hK:Kept W2 w7 (OwnQ q vl):=by
     rw [HW7.out]
     refine ⟨by rw [World.size_setCell];exact Nat.le_trans HB3.out.size HG6.out.size,fun x hx hn=>(Below.heap_setCell w6 ⟨q,2,none⟩ _ x (fun e=>hn (.inl e))).trans ((HG6.out.block x (Nat.lt_of_lt_of_le hx HB3.out.size) (fun e=>hn (.inr (by rw [HVL.out];exact e)))).trans (HB3.out.block x hx))⟩
    have hE:Below base W2 w7:=by
     rw [HW7.out]
     exact Below.setCell ((HB3.out.mono (by have:=HB2.out.size;have:=HBW.out;omega)).trans HB6.out) HM2.out.hb _
    have hX3:NodeOk W2 X (some n) [.bool n.f0,.slice A1 n.f1.length c1,.slice A2 n.f2.length c2,.int .i64 n.f3,.int .i64 n.f4,.slice A5 n.f5.length c5,.int .i64 n.f6,.int .i64 n.f7,.int .i64 n.f8,.slice A9 n.f9.length c9]:=HROW.out.step (fun k hx hl=>HB2.out.block k hl) (fun _ h=>h)
    refine RefP.start (RefM.putEnd HM2.out HV2.out n _ HLOW.out HROOM.out hX3 HM7.out HR7.out ?_ hK hE) (Grew.refl _ _) HB2.out HBW.out.1
    rw [HVL.out]
    rcases HAT.out with h|⟨b,h1,h2⟩
    ·exact .inl h
    ·exact .inr ⟨b,h1,Nat.le_trans HB3.out.size h2⟩
end Go.Proofs.YtdeneoknjeegbaaGreatDoor.P
end
