/- Lemmas of this claim, part 3. -/
import Derived.Test.YtdeneoknjeegbaaGreatDoorPartPtreeLives2
import Derived.Laws.CopyOwn
set_option linter.unusedVariables false
set_option linter.unusedSimpArgs false
section
namespace Go.Proofs.YtdeneoknjeegbaaGreatDoor.P
open Go.RowKit YtdeneoknjeegbaaGreatDoorW.PrintWords YtdeneoknjeegbaaGreatDoorW.PrintLast YtdeneoknjeegbaaGreatDoorW.PrintMore
theorem assert_run (x:Int) (xt:TypeId) (w:World):Sem.run Tryz.prog (Instr.typeAssert (.iface 3 (.int .i64 x)) xt 3 false) w = .ok (.int .i64 x) w:=by kernel_rfl
set_option maxHeartbeats 4000000 in
set_option maxRecDepth 100000 in
theorem popm_calls {w:World} {p base:Nat} {size room:Int} {vc:Value} {g n c:Nat} {l:List Int} (h:ABlk w p size room vc (.slice (some ⟨g,0,none⟩) n c)) (hR:FreeR w base (.slice (some ⟨g,0,none⟩) n c) l) (k:Nat) (hk:n=k+1) (hn:n<=4294967296) (hc:n<=c):
 Calls Tryz.prog 118 #[.pointer (some ⟨p,3,none⟩)] w fun e w'=>e = .returned (.iface 3 (.int .i64 (gn l k)))/\ABlk w' p size room vc (.slice (some ⟨g,0,none⟩) k c)/\FreeR w' base (.slice (some ⟨g,0,none⟩) k c) (l.take k)/\KB w w' p:=by
 have HBk:=z_ h
 have HR:=z_ hR
 have HN:=z_ hn
 have hx:=(FreeR.cell hR k (by omega)).1
 obtain ⟨x,hxe⟩ : ∃x,x=gn l k:=⟨_,rfl⟩
 rw [<-hxe] at hx
 rw [<-hxe]
 have hnk:(n:Int)-1=(k:Int):=by omega
 have hwk:wrap64 (k:Int)=(k:Int):=by unfold wrap64;omega
 have q1:(k:Int)<(n:Int):=by omega
 have q2:(k:Int)<=(c:Int):=by omega
 have q3:k<=c:=by omega
 have HK:=z_ hk
 obtain ⟨c0,c1,c2,c3⟩:=h.cells
 have f3:=blk_frozen h 3
 clear h hR hn hxe hk hc
 go_enter Tryz.func118,Tryz.ntmps118
 go_wp2_with fail
 go_ret
 refine ⟨rfl,HBk.out.set3 _,?_,?_⟩
 ·have h1:=Kd.R_take (m:=k) HR.out (by have:=FreeR.len HR.out;have:=HK.out;omega)
  exact Kd.R_set h1 HBk.out (by decide) 3 _
 ·exact (KB.refl w p).set 3 _
theorem own_some {g n c:Nat}:(Value.slice (some ⟨g,0,none⟩) n c).ownBlock=some g:=by simp [Value.ownBlock]
set_option maxHeartbeats 4000000 in
set_option maxRecDepth 100000 in
theorem hpop_calls {w:World} {p base:Nat} {size room:Int} {vc:Value} {g c:Nat} {l:List Int} (k:Nat) (h:ABlk w p size room vc (.slice (some ⟨g,0,none⟩) (k+1) c)) (hR:FreeR w base (.slice (some ⟨g,0,none⟩) (k+1) c) l) (hl:k<4294967295) (hH:HeapN (k+1) l) (hb:base<=p):
 Calls Tryz.prog 76 #[.iface 111 (.pointer (some ⟨p,3,none⟩))] w fun e w'=>e = .returned (.iface 3 (.int .i64 (gn l 0)))/\∃l',ABlk w' p size room vc (.slice (some ⟨g,0,none⟩) k c)/\FreeR w' base (.slice (some ⟨g,0,none⟩) k c) l'/\HeapN l'.length l'/\(l'++[gn l 0]).Perm l/\KeepBut w w' p (some g)/\Below base w w':=by
 have HBk:=z_ h
 have HR:=z_ hR
 have HBP:=z_ hb
 have HL:=z_ hl
 have HH:=z_ hH
 have HLEN:=z_ (FreeR.len hR)
 have HC:=z_ (Kd.R_reads' hR).2.1
 have HGP:=z_ (show p≠g from fun e=>by have:=Kd.R_ne hR (e▸h) (by decide);simp [Value.ownBlock] at this)
 obtain ⟨n,hn⟩ : ∃n,n=k+1:=⟨_,rfl⟩
 rw [<-hn] at h
 have HN:=z_ hn
 rw [<-hn] at HBk HR HH HLEN HC
 obtain ⟨c0,c1,c2,c3⟩:=h.cells
 have hnk:(n:Int)-1=(k:Int):=by omega
 have hwk:wrap64 (k:Int)=(k:Int):=by unfold wrap64;omega
 clear h hR hb hl hH hn
 go_enter Tryz.func76,Tryz.ntmps76
 go_wp2_with ((rw [len_method _ c3];go_upon))
 refine (len_calls _ _ _ _).mono ?_
 rintro e w' ⟨rfl,rfl⟩
 go_wp2_with ((rw [swap_method _ c3];go_upon))
 refine (swap_calls HR.out 0 k (by have:=HN.out;omega) (by have:=HN.out;omega)).mono ?_
 rintro e w1 ⟨rfl,hR1,hK1⟩
 have HB1:=z_ (show ABlk w1 p size room vc (.slice (some ⟨g,0,none⟩) n c) from hK1.k.blk HBk.out HGP.out (by simp))
 have HR1:=z_ hR1
 have HK1:=z_ hK1
 have HD:=z_ (show HeapDn k 0 (swapL l 0 k) by
  have h1:=HH.out
  rw [HLEN.out] at h1
  exact h1.swap_last (by have:=HLEN.out;have:=HN.out;omega))
 clear hR1 hK1 c0 c1 c2 c3
 go_wp2_with fail
 refine (down_calls HB1.out HR1.out (nn:=k) (by have:=HN.out;omega) (by have:=HN.out;have:=HL.out;omega) HD.out).mono ?_
 rintro e w2 ⟨⟨b,rfl⟩,l2,hR2,hH2,hP2,hG2,hK2⟩
 have HB2:=z_ (show ABlk w2 p size room vc (.slice (some ⟨g,0,none⟩) n c) from hK2.k.blk HB1.out HGP.out (by simp))
 have HR2:=z_ hR2
 have HK2:=z_ (HK1.out.then_ hK2)
 have hi0:0<l.length:=by have:=HLEN.out;have:=HN.out;omega
 have hik:k<l.length:=by have:=HLEN.out;have:=HN.out;omega
 have HLST:=z_ (show gn l2 k=gn l 0 by rw [hG2 k (Nat.le_refl _),gn_swap hi0 hik,if_pos rfl])
 have hl2:=FreeR.len hR2
 have HFIN:=z_ (show HeapN (l2.take k).length (l2.take k)/\(l2.take k++[gn l 0]).Perm l by
  have h1:(l2.take k).length=k:=by rw [List.length_take];have:=HN.out;omega
  refine ⟨by rw [h1];exact hH2.take,?_⟩
  have h2:l2.take k++[gn l 0]=l2:=by
   have h3:k<l2.length:=by have:=HN.out;omega
   rw [<-HLST.out,gn_lt h3]
   have h4:l2.drop k = [l2[k]]:=by
    rw [List.drop_eq_getElem_cons h3,List.drop_of_length_le (by have:=HN.out;omega)]
   rw [<-h4,List.take_append_drop]
  rw [h2]
  exact hP2.trans (swapL_perm hi0 hik))
 clear hR2 hH2 hP2 hG2 hK2 hl2 hi0 hik
 go_wp2_with ((rw [pop_method];go_upon))
 refine (popm_calls HB2.out HR2.out k HN.out (by have:=HN.out;have:=HL.out;omega) (by have:=HC.out;have:=HLEN.out;omega)).mono ?_
 rintro e w3 ⟨rfl,hB3,hR3,hK3⟩
 rw [HLST.out]
 have HB3:=z_ hB3
 have HR3:=z_ hR3
 have HK3:=z_ (show KeepBut w w3 p (some g) from ⟨Nat.le_trans HK2.out.k.1 hK3.k.1,fun x hx hne hr=>(hK3.k.2 x (Nat.lt_of_lt_of_le hx HK2.out.k.1) hne (by simp)).trans (HK2.out.k.2 x hx (fun e=>hr (by rw [e])) (by simp))⟩)
 have HBel:=z_ (show Below base w w3 from by
  have hgb:base<=g:=own_base (Kd.R_own hR3).choose_spec g own_some
  have hpb:=HBP.out
  have hbs:base<=w.heap.size:=by have:=HBk.out.lt;omega
  exact (HK2.out.below hbs hgb).trans (hK3.below (Nat.le_trans hbs HK2.out.k.1) hpb))
 clear hB3 hR3 hK3
 go_wp2_with fail
 go_ret
 exact ⟨rfl,_,HB3.out,HR3.out,HFIN.out.1,HFIN.out.2,HK3.out,HBel.out⟩
theorem CellsR.keepF {w w1:World} {base p:Nat} {size room:Int} {vc v vf:Value} {rows:List (List Value)} {l:List Int} (h:CellsR w base v rows) (hB:ABlk w p size room vc vf) (hF:FreeR w base vf l) (hk:KeepBut w w1 p vf.ownBlock):CellsR w1 base v rows:=by
 have h1:=Kd.R_types h hB (by decide)
 cases ho:vf.ownBlock with
 | none=>exact Kd.R_mono (Kd.R_step h1 (fun k hk1 hlt=>hk.2 k hlt hk1.2 (by rw [ho];simp))) (fun _ _=>trivial)
 | some g=>
   obtain ⟨cells,hc⟩:=own_typed (Kd.R_own hF).choose_spec g ho
   have h2:=Kd.R_types h1 hc (by decide)
   exact Kd.R_mono (Kd.R_step h2 (fun k hk1 hlt=>hk.2 k hlt hk1.1.2 (by rw [ho];intro e;exact hk1.2 (Option.some.inj e)))) (fun _ _=>trivial)
theorem raw_row {w:World} {base:Nat} {v:Value} {rows:List (List Value)} (h:CellsR w base v rows) (k:Nat) (r:List Value) (hr:rows[k]? = some r):r.length=11/\∃g c,v = .slice (some ⟨g,0,none⟩) rows.length c/\∀j u,r[j]? = some u->w.cell? ⟨g,k*11+j,none⟩=some u:=by
 obtain ⟨A,c,rfl⟩:=Kd.R_slice h
 have hkl:=(List.getElem?_eq_some_iff.1 hr).1
 have hrd:=Kd.R_reads' h
 obtain ⟨ad,cc,e,hcl,hcK,hcc⟩:=Kd.C_get hrd.2.2 ([]:List Value) (k:Int) (by omega) (by omega)
 subst e
 obtain ⟨g,rfl⟩:=Kd.R_head h
 have h0:=hcK.1
 rw [Int.toNat_natCast,List.getD_eq_getElem?_getD,hr] at h0
 have h1:cc=r:=h0
 refine ⟨by rw [<-h1];exact hcl,g,c,rfl,fun j u hj=>?_⟩
 have:=hcc j u (by rw [h1];exact hj)
 rwa [Int.toNat_natCast,add_plain] at this
set_option maxHeartbeats 8000000 in
set_option maxRecDepth 100000 in
theorem put_pop {w:World} {p base:Nat} {size room:Int} {vc:Value} {g k c:Nat} {l:List Int} {rows:List (List Value)} (lf:Bool) (A1 A2 A5 A9:Option Addr) (n1 n2 n5 n9 c1 c2 c5 c9:Nat) (x3 x4 x6 x7 x8:Int)
 (h:ABlk w p size room vc (.slice (some ⟨g,0,none⟩) (k+1) c)) (hR:CellsR w base vc rows) (hF:FreeR w base (.slice (some ⟨g,0,none⟩) (k+1) c) l) (hH:HeapN (k+1) l) (j:Nat) (hj:gn l 0=(j:Int)) (hjr:j<rows.length) (hs:size≠0) (hb:base<=p) (hr:(rows.length:Int)-((k+1:Nat):Int)<room) (hr0:1<=room) (hr1:room<=4194304) (hrl:rows.length<=4194304) (hkl:k<rows.length):
 Calls Tryz.prog 58 #[.pointer (some ⟨p,0,none⟩),.agg #[.bool lf,.slice A1 n1 c1,.slice A2 n2 c2,.int .i64 x3,.int .i64 x4,.slice A5 n5 c5,.int .i64 x6,.int .i64 x7,.int .i64 x8,.slice A9 n9 c9]] w
  fun e w'=>e = .returned (.tuple #[.int .i64 (j:Int),.int .i64 0])/\∃l',ABlk w' p size room vc (.slice (some ⟨g,0,none⟩) k c)/\CellsR w' base vc (rows.set j [.bool true,.bool lf,.slice A1 n1 c1,.slice A2 n2 c2,.int .i64 x3,.int .i64 x4,.slice A5 n5 c5,.int .i64 x6,.int .i64 x7,.int .i64 x8,.slice A9 n9 c9])/\FreeR w' base (.slice (some ⟨g,0,none⟩) k c) l'/\HeapN l'.length l'/\(l'++[(j:Int)]).Perm l/\
   (∀x,x<w.heap.size->x≠p->x≠g->some x≠vc.ownBlock->w'.heap[x]? = w.heap[x]?)/\Below base w w':=by
 obtain ⟨r,hrow⟩ : ∃r,rows[j]? = some r:=⟨_,List.getElem?_eq_getElem hjr⟩
 obtain ⟨hrl11,gc,cc,rfl,hcells⟩:=raw_row hR j r hrow
 have HBk:=z_ h
 have HR:=z_ hR
 have HF:=z_ hF
 have HH:=z_ hH
 have HS:=z_ hs
 have HBP:=z_ hb
 have HROW:=z_ (And.intro hrow hrl11)
 have HJ:=z_ (And.intro hj hjr)
 obtain ⟨n,hn⟩ : ∃n,n=k+1:=⟨_,rfl⟩
 obtain ⟨u,hu⟩ : ∃u,u=room-((rows.length:Int)-(n:Int)):=⟨_,rfl⟩
 have hu0:(u==0)=false:=by simp;omega
 have HRL:=z_ (show n<=rows.length/\rows.length<=4194304/\1<=room/\room<=4194304/\(rows.length:Int)-(n:Int)<room by omega)
 have HU:=z_ hu
 have HN:=z_ hn
 have hn0:decide (0<(n:Int))=true:=decide_eq_true (by omega)
 have hn00:decide (0<n)=true:=decide_eq_true (by omega)
 rw [<-hn] at HBk HF HH
 have HGL:=z_ (show g<w.heap.size from own_lt (Kd.R_own hF).choose_spec g own_some)
 clear h hR hF hH hs hb hr hr0 hr1 hu hrow hrl11 hj hjr hcells hkl hrl hn
 go_enter Tryz.func58,Tryz.ntmps58
 go_wp2_with fail
 refine (room_calls (A:=some ⟨gc,0,none⟩) (n:=rows.length) (c:=cc) (HBk.out.below (below_alloc (Below.refl _ _) _)) HS.out (by have:=HRL.out;omega) (by have:=HRL.out;omega) (by have:=HRL.out;omega) (by have:=HRL.out;omega)).mono ?_
 rw [<-HU.out]
 rintro e w' ⟨rfl,⟨m,rfl⟩⟩
 obtain ⟨W1,hW1⟩ : ∃W1,W1=(w.alloc (.cells #[.bool lf,.slice A1 n1 c1,.slice A2 n2 c2,.int .i64 x3,.int .i64 x4,.slice A5 n5 c5,.int .i64 x6,.int .i64 x7,.int .i64 x8,.slice A9 n9 c9] 59)).drewN m:=⟨_,rfl⟩
 rw [<-hW1]
 have hB1:Below w.heap.size w W1:=by rw [hW1];exact pw_below_drewN (below_alloc (Below.refl _ _) _) _
 have hN1:W1.heap[w.heap.size]? = some (.cells #[.bool lf,.slice A1 n1 c1,.slice A2 n2 c2,.int .i64 x3,.int .i64 x4,.slice A5 n5 c5,.int .i64 x6,.int .i64 x7,.int .i64 x8,.slice A9 n9 c9] 59 (0,0)):=by rw [hW1];exact heap_alloc_new w _
 have HN1:=z_ hN1
 have HB1:=z_ hB1
 have HR1:=z_ (Kd.R_below HR.out hB1)
 have HF1:=z_ (Kd.R_below HF.out hB1)
 have HBk1:=z_ (HBk.out.below hB1)
 clear hN1 hB1 hW1
 obtain ⟨k0,k1,k2,k3⟩:=HBk1.out.cells
 go_wp2_with fail
 refine (len_calls (some ⟨g,0,none⟩) n c _).mono ?_
 rintro e w' ⟨rfl,rfl⟩
 go_wp2_with fail
 have hBk1:=HBk1.out
 have hF1:=HF1.out
 have hH:=HH.out
 rw [HN.out] at hBk1 hF1 hH
 refine (hpop_calls k hBk1 hF1 (by have:=HRL.out;have:=HN.out;omega) hH HBP.out).mono ?_
 rw [HJ.out.1]
 rintro e w2 ⟨rfl,l2,hB2,hF2,hH2,hP2,hK2,hBel2⟩
 have HR2:=z_ (CellsR.keepF HR1.out hBk1 hF1 (by rw [own_some];exact hK2))
 have HBk2:=z_ hB2
 have HF2:=z_ hF2
 have HFIN:=z_ (And.intro hH2 hP2)
 have HN2:=z_ (show w2.heap[w.heap.size]? = some (.cells #[.bool lf,.slice A1 n1 c1,.slice A2 n2 c2,.int .i64 x3,.int .i64 x4,.slice A5 n5 c5,.int .i64 x6,.int .i64 x7,.int .i64 x8,.slice A9 n9 c9] 59 (0,0)) from (hK2.2 w.heap.size (blk_lt HN1.out) (by have:=HBk.out.lt;omega) (by have:=HGL.out;simp;omega)).trans HN1.out)
 have HK2:=z_ hK2
 have HBel2:=z_ hBel2
 clear hB2 hF2 hH2 hP2 hK2 hBel2 hBk1 hF1 hH k0 k1 k2 k3
 obtain ⟨k0,k1,k2,k3⟩:=HBk2.out.cells
 go_wp2_with ((rw [assert_run];go_upon))
 have q1:(j:Int)<(rows.length:Int):=by have:=HJ.out.2;omega
 have q2:0<=(j:Int):=by omega
 refine still_tail_at 8 (by kernel_rfl) (by kernel_rfl) (fun W hW=>?_)
 have hbw:Below w2.heap.size w2 W:=by rw [hW];exact below_drew (Below.refl _ _)
 have HBk3:=z_ (HBk2.out.below hbw)
 have HN3:=z_ (blk_below HN2.out hbw)
 have HR3:=z_ (Kd.R_below HR2.out hbw)
 have HF3:=z_ (Kd.R_below HF2.out hbw)
 have HBW:=z_ hbw
 clear hW hbw k0 k1 k2 k3
 obtain ⟨k0,k1,k2,k3⟩:=HBk3.out.cells
 have m0:=blk_cell HN3.out 0
 have m1:=blk_cell HN3.out 1
 have m2:=blk_cell HN3.out 2
 have m3:=blk_cell HN3.out 3
 have m4:=blk_cell HN3.out 4
 have m5:=blk_cell HN3.out 5
 have m6:=blk_cell HN3.out 6
 have m7:=blk_cell HN3.out 7
 have m8:=blk_cell HN3.out 8
 have m9:=blk_cell HN3.out 9
 simp only [List.take_succ_cons,List.take_zero,List.drop_succ_cons,List.drop_zero]
 repeat still_step
 refine wpStill_nil ?_
 clear k0 k1 k2 k3 m0 m1 m2 m3 m4 m5 m6 m7 m8 m9 q1 q2
 have hold : ∀jj u,r[jj]? = some u->W.cell? ⟨gc,(j:Int).toNat*11+jj,none⟩=some u:=by
  obtain ⟨_,g2,c2',e,hc⟩:=raw_row HR3.out j r HROW.out.1
  injection e with e1 e2 e3
  injection e1 with e1
  injection e1 with e1
  rw [Int.toNat_natCast,e1]
  exact hc
 have hnew:r.take 0++[.bool true,.bool lf,.slice A1 n1 c1,.slice A2 n2 c2,.int .i64 x3,.int .i64 x4,.slice A5 n5 c5,.int .i64 x6,.int .i64 x7,.int .i64 x8,.slice A9 n9 c9]++r.drop (0+11) = [.bool true,.bool lf,.slice A1 n1 c1,.slice A2 n2 c2,.int .i64 x3,.int .i64 x4,.slice A5 n5 c5,.int .i64 x6,.int .i64 x7,.int .i64 x8,.slice A9 n9 c9]:=by
  rw [List.drop_of_length_le (by have:=HROW.out.2;omega)]
  rfl
 refine Kd.R_store (Kd.raw 11) (w0:=W) base rfl rfl 103 (.tmp 44) (.tmp 43) rfl 103 (g:=gc) (n:=rows.length) (cap:=cc) (o':=j*11) (j:Int) 0 rows [.bool true,.bool lf,.slice A1 n1 c1,.slice A2 n2 c2,.int .i64 x3,.int .i64 x4,.slice A5 n5 c5,.int .i64 x6,.int .i64 x7,.int .i64 x8,.slice A9 n9 c9] (.agg #[.bool true,.bool lf,.slice A1 n1 c1,.slice A2 n2 c2,.int .i64 x3,.int .i64 x4,.slice A5 n5 c5,.int .i64 x6,.int .i64 x7,.int .i64 x8,.slice A9 n9 c9]) [.bool true,.bool lf,.slice A1 n1 c1,.slice A2 n2 c2,.int .i64 x3,.int .i64 x4,.slice A5 n5 c5,.int .i64 x6,.int .i64 x7,.int .i64 x8,.slice A9 n9 c9] r (fun _=>True) (fun _=>False) rfl rfl rfl rfl (by kernel_rfl) ?aOne HR3.out (by omega) (by have:=HJ.out.2;omega) HROW.out.2 hold (Nat.le_refl 11) ?aM (fun _ h=>h.elim) (Below.refl _ _) ?_
 case aOne=>intro q hq;simp only [List.mem_cons,List.not_mem_nil,or_false] at hq;rcases hq with rfl|rfl|rfl|rfl|rfl|rfl|rfl|rfl|rfl|rfl|rfl<;>rfl
 case aM=>
  have h2:(Kd.raw 11).M W base (fun _=>False) [.bool true,.bool lf,.slice A1 n1 c1,.slice A2 n2 c2,.int .i64 x3,.int .i64 x4,.slice A5 n5 c5,.int .i64 x6,.int .i64 x7,.int .i64 x8,.slice A9 n9 c9] [.bool true,.bool lf,.slice A1 n1 c1,.slice A2 n2 c2,.int .i64 x3,.int .i64 x4,.slice A5 n5 c5,.int .i64 x6,.int .i64 x7,.int .i64 x8,.slice A9 n9 c9]:=⟨rfl,rfl,by intro q hq;simp only [List.mem_cons,List.not_mem_nil,or_false] at hq;rcases hq with rfl|rfl|rfl|rfl|rfl|rfl|rfl|rfl|rfl|rfl|rfl<;>rfl⟩
  rw [<-hnew] at h2
  have h3:=h2
  rw [hnew] at h3
  exact (show (Kd.raw 11).M W base (fun _=>False) [.bool true,.bool lf,.slice A1 n1 c1,.slice A2 n2 c2,.int .i64 x3,.int .i64 x4,.slice A5 n5 c5,.int .i64 x6,.int .i64 x7,.int .i64 x8,.slice A9 n9 c9] (r.take 0++[.bool true,.bool lf,.slice A1 n1 c1,.slice A2 n2 c2,.int .i64 x3,.int .i64 x4,.slice A5 n5 c5,.int .i64 x6,.int .i64 x7,.int .i64 x8,.slice A9 n9 c9]++r.drop (0+11)) from by rw [hnew];exact h3)
 intro w4 hO4 hB4 hG4
 have HO4:=z_ hO4
 have HB4:=z_ hB4
 have HG4:=z_ hG4
 clear hO4 hB4 hG4 hold hnew
 go_wp2_with fail
 go_ret2
 have hgp:some p≠some gc:=by
  have:=Kd.R_ne HR3.out HBk3.out (by decide)
  simpa [Value.ownBlock] using this
 have hgg:gc≠g:=by
  obtain ⟨cells,hcg⟩:=own_typed (Kd.R_own HF3.out).choose_spec g own_some
  have:=Kd.R_ne HR3.out hcg (by decide)
  intro e
  exact this (by rw [own_some,e])
 have hBk4:ABlk w4 p size room (.slice (some ⟨gc,0,none⟩) rows.length cc) (.slice (some ⟨g,0,none⟩) k c):=(HG4.out.block p HBk3.out.lt hgp).trans HBk3.out
 have hF4:FreeR w4 base (.slice (some ⟨g,0,none⟩) k c) l2:=Kd.R_grown2 HF3.out rfl HG4.out (fun x hx=>by
  injection hx with hx
  subst hx
  rw [own_some]
  intro e
  exact hgg (Option.some.inj e))
 have hrow:=HO4.out
 rw [Int.toNat_natCast] at hrow
 have s1:=HB1.out.size
 have s2:=HK2.out.1
 have s3:=HBW.out.size
 refine ⟨rfl,l2,hBk4,hrow,hF4,HFIN.out.1,HFIN.out.2,?_,?_⟩
 ·intro x hx hxp hxg hxc
  rw [own_some] at hxc
  exact (HG4.out.block x (by omega) hxc).trans ((HBW.out.block x (by omega)).trans ((HK2.out.2 x (by omega) hxp (by simpa using hxg)).trans (HB1.out.block x hx)))
 ·have hbw:base<=w.heap.size:=by have:=HBk.out.lt;have:=HBP.out;omega
  exact (((HB1.out.mono hbw).trans HBel2.out).trans (HBW.out.mono (by omega))).trans HB4.out
set_option maxHeartbeats 4000000 in
set_option maxRecDepth 100000 in
theorem put_full {w:World} {p:Nat} {size room:Int} {A A':Option Addr} {n n' c c':Nat} (lf:Bool) (A1 A2 A5 A9:Option Addr) (n1 n2 n5 n9 c1 c2 c5 c9:Nat) (x3 x4 x6 x7 x8:Int)
 (h:ABlk w p size room (.slice A n c) (.slice A' n' c')) (hs:size≠0) (hr:room=(n:Int)-(n':Int)) (hr0:0<=room) (hr1:room<=4194304) (hn:n<=4194304) (hn':n'<=4194304):
 Calls Tryz.prog 58 #[.pointer (some ⟨p,0,none⟩),.agg #[.bool lf,.slice A1 n1 c1,.slice A2 n2 c2,.int .i64 x3,.int .i64 x4,.slice A5 n5 c5,.int .i64 x6,.int .i64 x7,.int .i64 x8,.slice A9 n9 c9]] w
  fun e w'=>e = .returned (.tuple #[.int .i64 0,.int .i64 4])/\Below w.heap.size w w':=by
 have HBk:=z_ h
 have HS:=z_ hs
 have HRL:=z_ (And.intro hr0 (And.intro hr1 (And.intro hn hn')))
 obtain ⟨u,hu⟩ : ∃u,u=room-((n:Int)-(n':Int)):=⟨_,rfl⟩
 have hu0:(u==0)=true:=by simp;omega
 have HU:=z_ hu
 clear h hs hr hr0 hr1 hu hn hn'
 go_enter Tryz.func58,Tryz.ntmps58
 go_wp2_with fail
 refine (room_calls (A:=A) (n:=n) (c:=c) (HBk.out.below (below_alloc (Below.refl _ _) _)) HS.out (by have:=HRL.out;omega) (by have:=HRL.out;omega) (by have:=HRL.out;omega) (by have:=HRL.out;omega)).mono ?_
 rw [<-HU.out]
 rintro e w' ⟨rfl,⟨m,rfl⟩⟩
 have HB1:=z_ (show Below w.heap.size w ((w.alloc (.cells #[.bool lf,.slice A1 n1 c1,.slice A2 n2 c2,.int .i64 x3,.int .i64 x4,.slice A5 n5 c5,.int .i64 x6,.int .i64 x7,.int .i64 x8,.slice A9 n9 c9] 59)).drewN m) from pw_below_drewN (below_alloc (Below.refl _ _) _) _)
 go_wp2_with fail
 go_ret2
 exact ⟨rfl,HB1.out⟩
abbrev Cs:=List (Option Nd)
def usedN:Cs->Nat
 | []=>0
 | none :: r=>usedN r
 | some _ :: r=>usedN r+1
def lowN:Cs->Nat
 | []=>0
 | none :: _=>0
 | some _ :: r=>lowN r+1
def putC (cs:Cs) (n:Nd):Cs:=if lowN cs<cs.length then cs.set (lowN cs) (some n) else cs++[some n]
theorem usedN_le : ∀cs:Cs,usedN cs<=cs.length
 | []=>Nat.le_refl _
 | none :: r=>by have:=usedN_le r;simp only [usedN,List.length_cons];omega
 | some _ :: r=>by have:=usedN_le r;simp only [usedN,List.length_cons];omega
theorem usedN_append : ∀(cs:Cs) (n:Nd),usedN (cs++[some n])=usedN cs+1
 | [],n=>rfl
 | none :: r,n=>by simp only [usedN,List.cons_append];exact usedN_append r n
 | some _ :: r,n=>by simp only [usedN,List.cons_append];rw [usedN_append r n]
theorem usedN_set : ∀(cs:Cs) (i:Nat) (n:Nd),cs[i]? = some none->usedN (cs.set i (some n))=usedN cs+1
 | [],i,n,h=>by simp at h
 | o :: r,0,n,h=>by
   obtain rfl:o=none:=by simpa using h
   rfl
 | none :: r,i+1,n,h=>by
   simp only [List.set_cons_succ,usedN]
   exact usedN_set r i n (by simpa using h)
 | some _ :: r,i+1,n,h=>by
   simp only [List.set_cons_succ,usedN]
   rw [usedN_set r i n (by simpa using h)]
theorem lowN_le : ∀cs:Cs,lowN cs<=cs.length
 | []=>Nat.le_refl _
 | none :: r=>Nat.zero_le _
 | some _ :: r=>by have:=lowN_le r;simp only [lowN,List.length_cons];omega
theorem lowN_none : ∀cs:Cs,lowN cs<cs.length->cs[lowN cs]? = some none
 | [],h=>by simp at h
 | none :: r,_=>rfl
 | some _ :: r,h=>by
   simp only [lowN,List.length_cons] at h
   simp only [lowN,List.getElem?_cons_succ]
   exact lowN_none r (by omega)
theorem lowN_min : ∀(cs:Cs) (i:Nat),cs[i]? = some none->lowN cs<=i
 | [],i,h=>by simp at h
 | none :: r,i,_=>Nat.zero_le _
 | some _ :: r,0,h=>by simp at h
 | some _ :: r,i+1,h=>by
   simp only [lowN]
   have:=lowN_min r i (by simpa using h)
   omega
theorem putC_length (cs:Cs) (n:Nd):(putC cs n).length=if lowN cs<cs.length then cs.length else cs.length+1:=by
 unfold putC
 split
 ·rw [List.length_set]
 ·simp
theorem putC_used (cs:Cs) (n:Nd):usedN (putC cs n)=usedN cs+1:=by
 unfold putC
 split
 ·rename_i h
  exact usedN_set cs _ n (lowN_none cs h)
 ·exact usedN_append cs n
structure FreeOk (cs:Cs) (fr:List Int):Prop where
 len:fr.length+usedN cs=cs.length
 dup:fr.Nodup
 mem : ∀x:Int,x∈fr↔∃i:Nat,x=(i:Int)/\cs[i]? = some none
theorem FreeOk.nil:FreeOk [] []:=⟨rfl,List.nodup_nil,fun x=>⟨fun h=>by simp at h,fun ⟨i,_,h⟩=>by simp at h⟩⟩
theorem FreeOk.pop {cs:Cs} {fr l':List Int} (h:FreeOk cs fr) (hh:HeapN fr.length fr) (h0:0<fr.length):gn fr 0=(lowN cs:Int)/\lowN cs<cs.length:=by
 have hm:gn fr 0∈fr:=by
  rw [gn_lt h0]
  exact List.getElem_mem h0
 obtain ⟨i,hi,hn⟩:=(h.mem _).1 hm
 have h1:=lowN_min cs i hn
 have hlt:i<cs.length:=(List.getElem?_eq_some_iff.1 hn).1
 have h2:=lowN_none cs (by omega)
 have h3:((lowN cs:Nat):Int)∈fr:=(h.mem _).2 ⟨_,rfl,h2⟩
 obtain ⟨k,hk,he⟩:=List.getElem_of_mem h3
 have h4:=hh.min k hk
 rw [gn_lt hk,he] at h4
 exact ⟨by omega,by omega⟩
theorem FreeOk.put {cs:Cs} {fr l':List Int} (h:FreeOk cs fr) (i:Nat) (n:Nd) (hi:cs[i]? = some none) (hp:(l'++[(i:Int)]).Perm fr):FreeOk (cs.set i (some n)) l':=by
 have hlt:i<cs.length:=(List.getElem?_eq_some_iff.1 hi).1
 have hl:=hp.length_eq
 rw [List.length_append,List.length_singleton] at hl
 have hd:(l'++[(i:Int)]).Nodup:=hp.nodup_iff.2 h.dup
 rw [List.nodup_append] at hd
 refine ⟨?_,hd.1,fun x=>?_⟩
 ·have:=h.len
  rw [usedN_set cs i n hi,List.length_set]
  omega
 ·have hx:x∈l'++[(i:Int)]↔x∈fr:=hp.mem_iff
  have hf:=h.mem x
  constructor
  ·intro hm
   obtain ⟨k,hk,hn⟩:=hf.1 (hx.1 (List.mem_append_left _ hm))
   have hne:k≠i:=by
    rintro rfl
    exact hd.2.2 x hm (k:Int) (by simp) hk
   exact ⟨k,hk,by rw [List.getElem?_set_ne (Ne.symm hne)];exact hn⟩
  ·rintro ⟨k,hk,hn⟩
   have hne:k≠i:=by
    rintro rfl
    rw [List.getElem?_set_self hlt] at hn
    cases hn
   rw [List.getElem?_set_ne (Ne.symm hne)] at hn
   rcases List.mem_append.1 (hx.2 (hf.2 ⟨k,hk,hn⟩)) with hm|hm
   ·exact hm
   ·exfalso
    have:x=(i:Int):=by simpa using hm
    omega
theorem FreeOk.grow {cs:Cs} (h:FreeOk cs []) (n:Nd):lowN cs=cs.length/\FreeOk (cs++[some n]) []:=by
 have hn : ∀k:Nat,cs[k]? ≠ some none:=fun k hk=>by
  have:=(h.mem (k:Int)).2 ⟨k,rfl,hk⟩
  simp at this
 have h1:lowN cs=cs.length:=by
  rcases Nat.lt_or_ge (lowN cs) cs.length with h2|h2
  ·exact absurd (lowN_none cs h2) (hn _)
  ·have:=lowN_le cs
   omega
 refine ⟨h1,⟨?_,List.nodup_nil,fun x=>⟨fun hx=>by simp at hx,?_⟩⟩⟩
 ·have:=h.len
  rw [usedN_append,List.length_append,List.length_singleton]
  simp only [List.length_nil] at this ⊢
  omega
 ·rintro ⟨k,_,hk⟩
  exfalso
  rcases Nat.lt_or_ge k cs.length with h2|h2
  ·rw [List.getElem?_append_left h2] at hk
   exact hn k hk
  ·rw [List.getElem?_append_right h2] at hk
   rcases Nat.eq_zero_or_pos (k-cs.length) with h3|h3
   ·rw [h3] at hk
    simp at hk
   ·rw [List.getElem?_eq_none (by simp;omega)] at hk
    cases hk
theorem heap_some_lt {w:World} {k:Nat} {o:Obj} (h:w.heap[k]? = some o):k<w.heap.size:=(Array.getElem?_eq_some_iff.1 h).1
abbrev BX (w:World) (X:Nat->Prop) (v:Value) (l:List Int):Prop:=Kd.V (Kd.int .u8) 5 w 0 X v l
def RowOf (w:World) (X:Nat->Prop) (n:Nd) (r:List Value):Prop:=∃(A1 A2 A5 A9:Option Addr) (c1 c2 c5 c9:Nat),r = [.bool n.f0,.slice A1 n.f1.length c1,.slice A2 n.f2.length c2,.int .i64 n.f3,.int .i64 n.f4,.slice A5 n.f5.length c5,.int .i64 n.f6,.int .i64 n.f7,.int .i64 n.f8,.slice A9 n.f9.length c9]/\
 BX w X (.slice A1 n.f1.length c1) n.f1/\BX w X (.slice A2 n.f2.length c2) n.f2/\BX w X (.slice A5 n.f5.length c5) n.f5/\BX w X (.slice A9 n.f9.length c9) n.f9
theorem RowOf.step {w w1:World} {X X1:Nat->Prop} {n:Nd} {r:List Value} (h:RowOf w X n r) (hk : ∀k,X k->k<w.heap.size->w1.heap[k]? = w.heap[k]?) (hX : ∀k,X k->X1 k):RowOf w1 X1 n r:=by
 obtain ⟨A1,A2,A5,A9,c1,c2,c5,c9,e,h1,h2,h5,h9⟩:=h
 exact ⟨A1,A2,A5,A9,c1,c2,c5,c9,e,Kd.V_mono (Kd.V_step h1 hk) hX,Kd.V_mono (Kd.V_step h2 hk) hX,Kd.V_mono (Kd.V_step h5 hk) hX,Kd.V_mono (Kd.V_step h9 hk) hX⟩
def CellOk (w:World) (X:Nat->Prop):Option Nd->List Value->Prop
 | none,r=>∃t,r = .bool false :: t
 | some n,r=>∃t,r = .bool true :: t/\RowOf w X n t
theorem CellOk.step {w w1:World} {X X1:Nat->Prop} {o:Option Nd} {r:List Value} (h:CellOk w X o r) (hk : ∀k,X k->k<w.heap.size->w1.heap[k]? = w.heap[k]?) (hX : ∀k,X k->X1 k):CellOk w1 X1 o r:=by
 cases o with
 | none=>exact h
 | some n=>
   obtain ⟨t,e,hr⟩:=h
   exact ⟨t,e,hr.step hk hX⟩
def OwnS (p:Nat) (vc vf:Value) (k:Nat):Prop:=k=p\/some k=vc.ownBlock\/some k=vf.ownBlock
def Grew (w:World) (A B:Nat->Prop):Prop:=∀k,B k->A k\/w.heap.size<=k
theorem Grew.refl (w:World) (A:Nat->Prop):Grew w A A:=fun _ h=>.inl h
theorem Grew.trans {w w1:World} {A B C:Nat->Prop} (h:Grew w A B) (k:Grew w1 B C) (hs:w.heap.size<=w1.heap.size):Grew w A C:=fun x hx=>(k x hx).elim (h x) (fun h1=>.inr (Nat.le_trans hs h1))
structure ArenaV (w:World) (base p:Nat) (size room:Int) (vc vf:Value) (X:Nat->Prop) (rows:List (List Value)) (fr:List Int) (cs:Cs):Prop where
 blk:ABlk w p size room vc vf
 cells:CellsR w base vc rows
 free:FreeR w base vf fr
 heap:HeapN fr.length fr
 ok:FreeOk cs fr
 len:rows.length=cs.length
 row : ∀(i:Nat) (o:Option Nd) (r:List Value),cs[i]? = some o->rows[i]? = some r->CellOk w X o r
 sep : ∀k,X k->k<w.heap.size/\¬OwnS p vc vf k
structure ArenaM (w:World) (base p:Nat) (size room:Int) (vc vf:Value) (X:Nat->Prop) (cs:Cs):Prop where
 mem : ∃rows fr,ArenaV w base p size room vc vf X rows fr cs
 hb:base<=p
 hs:1<=size/\size<=32
 hr:1<=room/\room<=4194304
 hl:(cs.length:Int)<=room
theorem ArenaV.own_lt {w:World} {base p:Nat} {size room:Int} {vc vf:Value} {X:Nat->Prop} {rows:List (List Value)} {fr:List Int} {cs:Cs} (h:ArenaV w base p size room vc vf X rows fr cs) (k:Nat) (hk:OwnS p vc vf k):k<w.heap.size:=by
 rcases hk with rfl|hk|hk
 ·exact h.blk.lt
 ·exact YtdeneoknjeegbaaGreatDoorW.PrintWords.own_lt (Kd.R_own h.cells).choose_spec k hk.symm
 ·exact YtdeneoknjeegbaaGreatDoorW.PrintWords.own_lt (Kd.R_own h.free).choose_spec k hk.symm
theorem ArenaV.step {w w1:World} {base p:Nat} {size room:Int} {vc vf:Value} {X X1:Nat->Prop} {rows:List (List Value)} {fr:List Int} {cs:Cs} (h:ArenaV w base p size room vc vf X rows fr cs) (hs:w.heap.size<=w1.heap.size) (hk : ∀k,k<w.heap.size->OwnS p vc vf k\/X k->w1.heap[k]? = w.heap[k]?) (hX : ∀k,X k->X1 k) (hX1 : ∀k,X1 k->k<w1.heap.size/\¬OwnS p vc vf k):ArenaV w1 base p size room vc vf X1 rows fr cs:=by
 refine ⟨(hk p h.blk.lt (.inl (.inl rfl))).trans h.blk,?_,?_,h.heap,h.ok,h.len,fun i o r hi hr=>(h.row i o r hi hr).step (fun k hx hl=>hk k hl (.inr hx)) hX,hX1⟩
 ·exact Kd.R_mono (Kd.R_step (Kd.R_reok (ok:=fun k=>some k=vc.ownBlock) rfl h.cells (fun k e=>e.symm)) (fun k hx hl=>hk k hl (.inl (.inr (.inl hx))))) (fun _ _=>trivial)
 ·exact Kd.R_mono (Kd.R_step (Kd.R_reok (ok:=fun k=>some k=vf.ownBlock) rfl h.free (fun k e=>e.symm)) (fun k hx hl=>hk k hl (.inl (.inr (.inr hx))))) (fun _ _=>trivial)
theorem ArenaM.step {w w1:World} {base p:Nat} {size room:Int} {vc vf:Value} {X X1:Nat->Prop} {cs:Cs} (h:ArenaM w base p size room vc vf X cs) (hs:w.heap.size<=w1.heap.size) (hk : ∀k,k<w.heap.size->OwnS p vc vf k\/X k->w1.heap[k]? = w.heap[k]?) (hX : ∀k,X k->X1 k) (hX1 : ∀k,X1 k->k<w1.heap.size/\¬OwnS p vc vf k):ArenaM w1 base p size room vc vf X1 cs:=by
 obtain ⟨rows,fr,hv⟩:=h.mem
 exact ⟨⟨rows,fr,hv.step hs hk hX hX1⟩,h.hb,h.hs,h.hr,h.hl⟩
theorem ArenaM.below {w w1:World} {base p:Nat} {size room:Int} {vc vf:Value} {X:Nat->Prop} {cs:Cs} (h:ArenaM w base p size room vc vf X cs) (hb:Below w.heap.size w w1):ArenaM w1 base p size room vc vf X cs:=by
 obtain ⟨rows,fr,hv⟩:=h.mem
 exact h.step hb.size (fun k hk _=>hb.block k hk) (fun _ h=>h) (fun k hx=>⟨Nat.lt_of_lt_of_le (hv.sep k hx).1 hb.size,(hv.sep k hx).2⟩)
def ArenaP (w w':World) (base p:Nat) (size room:Int) (vc vf:Value) (X:Nat->Prop) (cs:Cs):Prop:=
 ∃vc' vf' X',ArenaM w' base p size room vc' vf' X' cs/\Grew w (OwnS p vc vf) (OwnS p vc' vf')/\Grew w X X'/\Kept w w' (OwnS p vc vf)/\Below base w w'
theorem ArenaP.of_below {w w':World} {base p:Nat} {size room:Int} {vc vf:Value} {X:Nat->Prop} {cs:Cs} (h:ArenaM w base p size room vc vf X cs) (hb:Below w.heap.size w w'):ArenaP w w' base p size room vc vf X cs:=by
 obtain ⟨rows,fr,hv⟩:=h.mem
 exact ⟨vc,vf,X,h.below hb,Grew.refl _ _,Grew.refl _ _,Kept.of_below hb _,hb.mono (by have:=hv.blk.lt;have:=h.hb;omega)⟩
set_option maxRecDepth 100000 in
theorem put_calls {w:World} {base p:Nat} {size room:Int} {vc vf:Value} {X:Nat->Prop} {cs:Cs} (h:ArenaM w base p size room vc vf X cs) (n:Nd) (A1 A2 A5 A9:Option Addr) (c1 c2 c5 c9:Nat)
 (b1:BX w X (.slice A1 n.f1.length c1) n.f1) (b2:BX w X (.slice A2 n.f2.length c2) n.f2) (b5:BX w X (.slice A5 n.f5.length c5) n.f5) (b9:BX w X (.slice A9 n.f9.length c9) n.f9):
 Calls Tryz.prog 58 #[.pointer (some ⟨p,0,none⟩),.agg #[.bool n.f0,.slice A1 n.f1.length c1,.slice A2 n.f2.length c2,.int .i64 n.f3,.int .i64 n.f4,.slice A5 n.f5.length c5,.int .i64 n.f6,.int .i64 n.f7,.int .i64 n.f8,.slice A9 n.f9.length c9]] w
  fun e w'=>(if (usedN cs:Int)=room then e = .returned (.tuple #[.int .i64 0,.int .i64 4])/\ArenaP w w' base p size room vc vf X cs else e = .returned (.tuple #[.int .i64 (lowN cs:Int),.int .i64 0])/\ArenaP w w' base p size room vc vf X (putC cs n)):=by
 obtain ⟨rows,fr,hv⟩:=h.mem
 obtain ⟨A,c,rfl⟩:=Kd.R_slice hv.cells
 obtain ⟨A',c',rfl⟩:=Kd.R_slice hv.free
 have hs:=h.hs
 have hr:=h.hr
 have hl:=h.hl
 have hlen:=hv.len
 have hok:=hv.ok.len
 have hbw:base<=w.heap.size:=by have:=hv.blk.lt;have:=h.hb;omega
 have hrow:RowOf w X n [.bool n.f0,.slice A1 n.f1.length c1,.slice A2 n.f2.length c2,.int .i64 n.f3,.int .i64 n.f4,.slice A5 n.f5.length c5,.int .i64 n.f6,.int .i64 n.f7,.int .i64 n.f8,.slice A9 n.f9.length c9]:=⟨A1,A2,A5,A9,c1,c2,c5,c9,rfl,b1,b2,b5,b9⟩
 by_cases hfull:(usedN cs:Int)=room
 ·refine (put_full n.f0 A1 A2 A5 A9 _ _ _ _ c1 c2 c5 c9 n.f3 n.f4 n.f6 n.f7 n.f8 hv.blk (by omega) (by omega) (by omega) (by omega) (by omega) (by omega)).mono ?_
  rintro e w' ⟨rfl,hb⟩
  rw [if_pos hfull]
  exact ⟨rfl,ArenaP.of_below h hb⟩
 ·cases hfr:fr with
  | nil=>
    subst hfr
    have hg:=hv.ok.grow n
    refine (put_grow (base:=base) n.f0 A1 A2 A5 A9 _ _ _ _ c1 c2 c5 c9 n.f3 n.f4 n.f6 n.f7 n.f8 hv.blk hv.cells (by omega) h.hb (by simp only [List.length_nil] at hok;omega) hr.2).mono ?_
    rintro e w' ⟨rfl,v1,hb1,hR1,hat,hk,hbel⟩
    rw [if_neg hfull]
    have hT:Kept w w' (OwnS p (.slice A rows.length c) (.slice A' 0 c')):=⟨hk.1,fun x hx hn=>hk.2 x hx (fun e=>hn (.inl e)) (fun e=>hn (.inr (.inl e)))⟩
    have hgr:Grew w (OwnS p (.slice A rows.length c) (.slice A' 0 c')) (OwnS p v1 (.slice A' 0 c')):=fun x hx=>by
     rcases hx with hx|hx|hx
     ·exact .inl (.inl hx)
     ·rcases hat with h1|⟨b,h1,h2⟩
      ·exact .inl (.inr (.inl (hx.trans h1)))
      ·rw [h1] at hx
       obtain rfl:=Option.some.inj hx
       exact .inr h2
     ·exact .inl (.inr (.inr hx))
    have hXs : ∀k,X k->k<w.heap.size->w'.heap[k]? = w.heap[k]? := fun k hx hl=>hT.2 k hl (hv.sep k hx).2
    refine ⟨by rw [hg.1,hlen],v1,_,X,⟨?_,h.hb,hs,hr,?_⟩,hgr,Grew.refl _ _,hT,hbel hbw⟩
    ·refine ⟨_,[],hb1,hR1,?_,fun k _ hk=>by simp at hk,by unfold putC;rw [if_neg (by omega)];exact hg.2,by unfold putC;rw [if_neg (by omega)];simp [hlen],?_,fun k hx=>⟨Nat.lt_of_lt_of_le (hv.sep k hx).1 hT.1,fun ho=>(hgr k ho).elim (hv.sep k hx).2 (fun h1=>by have:=(hv.sep k hx).1;omega)⟩⟩
     ·refine Kd.R_mono (Kd.R_step (Kd.R_bound (Kd.R_types hv.free hv.blk (by decide))) (fun k hk1 hlt=>?_)) (fun _ _=>trivial)
      obtain ⟨⟨_,hkp⟩,_,_,q,hq,cells,hc⟩:=hk1
      have:q=3:=by
       rcases List.mem_cons.1 hq with h|h
       ·exact h
       ·cases h
      subst this
      exact hk.2 k hlt hkp (Kd.R_ne hv.cells hc (by decide))
     ·intro i o r hi hro
      unfold putC at hi
      rw [if_neg (by omega)] at hi
      rcases Nat.lt_or_ge i cs.length with h2|h2
      ·rw [List.getElem?_append_left h2] at hi
       rw [List.getElem?_append_left (by omega)] at hro
       exact (hv.row i o r hi hro).step hXs (fun _ h=>h)
      ·rw [List.getElem?_append_right h2] at hi
       rw [List.getElem?_append_right (by omega)] at hro
       have h3:i-cs.length=0:=by
        rcases Nat.eq_zero_or_pos (i-cs.length) with h3|h3
        ·exact h3
        ·rw [List.getElem?_eq_none (by simp;omega)] at hi
         cases hi
       rw [h3] at hi
       rw [hlen,h3] at hro
       obtain rfl:some n=o:=by simpa using hi
       obtain rfl:=Option.some.inj hro
       exact ⟨_,rfl,hrow.step hXs (fun _ h=>h)⟩
    ·rw [putC_length,if_neg (by omega)]
     simp only [List.length_nil] at hok
     omega
  | cons x rest=>
    have h0:0<fr.length:=by rw [hfr];simp
    obtain ⟨hlow,hlt⟩:=hv.ok.pop (l':=[]) hv.heap h0
    obtain ⟨g,rfl⟩ : ∃g,A'=some ⟨g,0,none⟩:=by
     obtain ⟨ad,cc,e,hcl,hcK,hcc⟩:=Kd.C_get (FreeR.readsC hv.free) (0:Int) 0 (by omega) (by omega)
     subst e
     obtain ⟨g,rfl⟩:=Kd.R_head hv.free
     exact ⟨g,rfl⟩
    obtain ⟨k,hk⟩ : ∃k,fr.length=k+1:=⟨fr.length-1,by omega⟩
    have hblk:=hv.blk
    have hfree:=hv.free
    have hheap:=hv.heap
    rw [hk] at hblk hfree hheap
    refine (put_pop (base:=base) n.f0 A1 A2 A5 A9 _ _ _ _ c1 c2 c5 c9 n.f3 n.f4 n.f6 n.f7 n.f8 hblk hv.cells hfree hheap (lowN cs) hlow (by omega) (by omega) h.hb (by omega) hr.1 hr.2 (by omega) (by omega)).mono ?_
    rintro e w' ⟨rfl,l',hb1,hR1,hF1,hH1,hP1,hkeep,hbel⟩
    rw [if_neg hfull]
    have hnone:=lowN_none cs hlt
    have hT:Kept w w' (OwnS p (.slice A rows.length c) (.slice (some ⟨g,0,none⟩) fr.length c')):=⟨hbel.size,fun x hx hn=>hkeep x hx (fun e=>hn (.inl e)) (fun e=>hn (.inr (.inr (by rw [own_some,e])))) (fun e=>hn (.inr (.inl e)))⟩
    have hgr:Grew w (OwnS p (.slice A rows.length c) (.slice (some ⟨g,0,none⟩) fr.length c')) (OwnS p (.slice A rows.length c) (.slice (some ⟨g,0,none⟩) k c')):=fun x hx=>by
     rcases hx with hx|hx|hx
     ·exact .inl (.inl hx)
     ·exact .inl (.inr (.inl hx))
     ·exact .inl (.inr (.inr (by rw [own_some] at hx ⊢;exact hx)))
    have hXs : ∀k,X k->k<w.heap.size->w'.heap[k]? = w.heap[k]? := fun k hx hl=>hT.2 k hl (hv.sep k hx).2
    refine ⟨rfl,_,_,X,⟨⟨_,l',hb1,hR1,hF1,hH1,?_,?_,?_,fun k hx=>⟨Nat.lt_of_lt_of_le (hv.sep k hx).1 hT.1,fun ho=>(hgr k ho).elim (hv.sep k hx).2 (fun h1=>by have:=(hv.sep k hx).1;omega)⟩⟩,h.hb,hs,hr,?_⟩,hgr,Grew.refl _ _,hT,hbel⟩
    ·unfold putC
     rw [if_pos hlt]
     exact hv.ok.put (lowN cs) n hnone hP1
    ·unfold putC
     rw [if_pos hlt,List.length_set,List.length_set,hlen]
    ·intro i o r hi hro
     unfold putC at hi
     rw [if_pos hlt] at hi
     by_cases hie:i=lowN cs
     ·subst hie
      rw [List.getElem?_set_self hlt] at hi
      rw [List.getElem?_set_self (by omega)] at hro
      obtain rfl:=Option.some.inj hi
      obtain rfl:=Option.some.inj hro
      exact ⟨_,rfl,hrow.step hXs (fun _ h=>h)⟩
     ·rw [List.getElem?_set_ne (Ne.symm hie)] at hi
      rw [List.getElem?_set_ne (Ne.symm hie)] at hro
      exact (hv.row i o r hi hro).step hXs (fun _ h=>h)
    ·rw [putC_length,if_pos hlt]
     exact hl
def rd_bb (xs:List (List Int)) (i:Int):List Int:=xs.getD i.toNat []
theorem at_bb {w:World} {A:Option Addr} {n:Nat} {xs:List (List Int)} (h:Kd.C (Kd.slice 5 (Kd.int .u8)) w A n xs) (i:Int) (h0:0<=i) (h1:i<n) : ∃ad A0 c0,A=some ad/\w.cell? (ad.add i.toNat)=some (.slice A0 (rd_bb xs i).length c0)/\(rd_bb xs i).length<=c0/\(Kd.int .u8).C w A0 (rd_bb xs i).length (rd_bb xs i):=by
 obtain ⟨ad,c,e,_,hK,hc0⟩:=Kd.C_get h ([]:List Int) i h0 h1
 have hc : ∀j u,c[j]? = some u->w.cell? (ad.add (i.toNat*1+j))=some u:=hc0
 obtain ⟨A0,c0,rfl,l0,g0⟩:=hK
 exact ⟨ad,A0,c0,e,by have hq:=hc 0 _ rfl;rwa [Nat.mul_one,Nat.add_zero] at hq,l0,g0⟩
theorem long_calls (A:Option Addr) (n c:Nat) (w:World):
 Calls Tryz.prog 81 #[.slice A n c] w fun e w'=>e = .returned (.bool (decide (65535<(n:Int))))/\w'=w:=by
 go_enter Tryz.func81,Tryz.ntmps81
 go_wp2_with fail
 go_ret
 exact ⟨rfl,rfl⟩
def isLong (p:List Int):Bool:=decide (65535<(p.length:Int))
set_option maxHeartbeats 1000000 in
set_option maxRecDepth 100000 in
theorem index_long (A0:Option Addr) (c0:Nat) (l0:List (List Int)) (w:World) (hr0:Kd.C (Kd.slice 5 (Kd.int .u8)) w A0 l0.length l0) (hb:(l0.length:Int)<=9223372036854775807):
 Calls Tryz.prog 87 #[.slice A0 l0.length c0,.func (.func 81) #[] #[]] w fun e w'=>∃i:Int,e = .returned (.int .i64 i)/\decide (0<=i)=l0.any isLong/\w'=w:=by
 have HR:=z_ hr0
 clear hr0
 go_enter Tryz.func87,Tryz.ntmps87
 go_wp2_with fail
 go_loopw [8] (fun v8 wr=>∃k:Nat,k<=l0.length/\v8 = .int .i64 (k:Int)/\wr=w/\Aside0 (l0.any isLong=(l0.drop k).any isLong)) (fun v8 _=>l0.length-(intOf v8).toNat)
 case atStart=>exact ⟨0,by omega,rfl,rfl,⟨by rw [List.drop_zero]⟩⟩
 case round=>
  obtain ⟨k,hk,rfl,rfl,HA⟩:=hrel
  by_cases hlt:k<l0.length
  ·have hd:decide ((k:Int)<(l0.length:Int))=true:=by simp;omega
   obtain ⟨ad,A1,c1,rfl,hx,hc,hi⟩:=at_bb HR.out (k:Int) (by omega) (by omega)
   rw [Int.toNat_natCast] at hx
   have hdr:l0.drop k=rd_bb l0 k :: l0.drop (k+1):=by
    rw [List.drop_eq_getElem_cons hlt]
    unfold rd_bb
    rw [List.getD_eq_getElem?_getD,Int.toNat_natCast,List.getElem?_eq_getElem hlt]
    rfl
   have HDR:=z_ hdr
   clear hdr hi hc
   by_cases hL:65535<((rd_bb l0 k).length:Int)
   ·have hdL:decide (65535<((rd_bb l0 k).length:Int))=true:=decide_eq_true hL
    have HLL:=z_ hL
    clear hL
    go_wp2_with fail
    refine (long_calls A1 _ c1 _).mono ?_
    rintro e1 w1 ⟨rfl,rfl⟩
    rw [hdL]
    go_wp2_with fail
    go_ret
    have hany:l0.any isLong=true:=by rw [HA.out,HDR.out,List.any_cons,show isLong (rd_bb l0 k)=true from hdL];rfl
    exact ⟨_,rfl,by rw [hany];simp,rfl⟩
   ·have hdL:decide (65535<((rd_bb l0 k).length:Int))=false:=decide_eq_false hL
    have HLL:=z_ hL
    clear hL
    go_wp2_with fail
    refine (long_calls A1 _ c1 _).mono ?_
    rintro e1 w1 ⟨rfl,rfl⟩
    rw [hdL]
    go_wp2_with fail
    have hany:l0.any isLong=(l0.drop (k+1)).any isLong:=by rw [HA.out,HDR.out,List.any_cons,show isLong (rd_bb l0 k)=false from hdL];rfl
    exact ⟨⟨k+1,by omega,by go_num,trivial,⟨hany⟩⟩,by simp only [intOf];omega⟩
  ·obtain rfl:k=l0.length:=by omega
   have hd:decide ((l0.length:Int)<(l0.length:Int))=false:=by simp
   go_wp2_with fail
   go_ret
   exact ⟨_,rfl,by rw [HA.out,List.drop_length];rfl,rfl⟩
def slices_ContainsFunc_byte_byte.f (l0:List (List Int)) (a1:Int):Option Bool:=some (l0.any isLong)
set_option maxRecDepth 100000 in
theorem slices_ContainsFunc_byte_byte.calls (A0:Option Addr) (c0:Nat) (l0:List (List Int)) (a1:Int) (r:Bool) (w:World) (hr0:Kd.C (Kd.slice 5 (Kd.int .u8)) w A0 l0.length l0) (hc0:l0.length<=c0) (h:slices_ContainsFunc_byte_byte.f l0 a1=some r):
 Calls Tryz.prog 82 #[.slice A0 l0.length c0,.func (.func 81) #[] #[]] w fun e w'=>e = .returned (.bool r)/\Drawn0 w w':=by
 obtain rfl:=Option.some.inj h
 have hb:(l0.length:Int)<=9223372036854775807:=by have:=hr0.2.1;omega
 go_enter Tryz.func82,Tryz.ntmps82
 go_wp2_with fail
 refine (index_long A0 c0 l0 w hr0 hb).mono ?_
 rintro e1 w1 ⟨i,rfl,hi,rfl⟩
 go_wp2_with fail
 go_ret
 exact ⟨by rw [<-hi];rfl,⟨0,rfl⟩⟩
end Go.Proofs.YtdeneoknjeegbaaGreatDoor.P
end
section
namespace Go.Proofs.YtdeneoknjeegbaaGreatDoor.P
open Go.RowKit YtdeneoknjeegbaaGreatDoorW.PrintWords YtdeneoknjeegbaaGreatDoorW.PrintLast YtdeneoknjeegbaaGreatDoorW.PrintMore
attribute [local go_sem] max2_int min2_int max_two min_two max_three min_three max_four min_four
def texts_Text.l0:Nat->List Int->List (List Int)->Int->Int->Option (List Int×Int)
 | 0,_,_,_,_=>none
 | k+1,x7,x22,x23,x24=>if x24<x23 then (if 0<=x24 then (if x24<(x22.length:Int) then ((some (([(((rd_L1 x22 x24).length:Int)/256)%256,(((rd_L1 x22 x24).length:Int))%256]:List Int):List Int)).bind fun y121=>(if x7.length+y121.length<140737488355328 then ((some (x7++y121:List Int)).bind fun y124=>(if y124.length+(rd_L1 x22 x24).length<140737488355328 then (texts_Text.l0 k (y124++(rd_L1 x22 x24)) x22 x23 (wrap64 (x24+1))) else (none))) else (none))) else (none)) else (none)) else (some (x7,0))
def texts_Text.f (k:Nat) (a0:Int) (l1:List (List Int)):Option (List Int×Int):=if a0=((a0)%256) then ((slices_ContainsFunc_byte_byte.f l1 81).bind fun t116=>(if t116=true then (some (([]:List Int),4)) else (texts_Text.l0 k (([(a0)%256]:List Int)) l1 (l1.length:Int) 0))) else (some (([]:List Int),1))
set_option maxHeartbeats 8000000 in
set_option maxRecDepth 100000 in
theorem texts_Text.calls (k:Nat) (a0:Int) (A1:Option Addr) (c1:Nat) (l1:List (List Int)) (r1:List Int) (r2:Int) (w:World) (hr1:Kd.C (Kd.slice 5 (Kd.int .u8)) w A1 l1.length l1) (hc1:l1.length<=c1) (h:texts_Text.f k a0 l1=some (r1,r2)):
 Calls Tryz.prog 72 #[.int .i64 a0,.slice A1 l1.length c1] w fun e w'=>∃v0_:Value,e = .returned (.tuple #[v0_,.int .i64 r2])/\Kd.R (Kd.int .u8) 5 w' w.heap.size (fun _=>True) v0_ r1/\Below w.heap.size w w':=by
 have HR1:=z_ hr1
 have HC1:=z_ hc1
 clear hr1 hc1
 have HB:=z_ (Below.refl w.heap.size w)
 have H:(if a0=((a0)%256) then ((slices_ContainsFunc_byte_byte.f l1 81).bind fun t116=>(if t116=true then (some (([]:List Int),4)) else (texts_Text.l0 k (([(a0)%256]:List Int)) l1 (l1.length:Int) 0))) else (some (([]:List Int),1)))=some (r1,r2):=h
 clear h
 by_cases c3:a0=((a0)%256)
 ·rw [if_pos c3] at H
  have c3b0:(a0==((a0)%256))=true:=beq_iff_eq.mpr c3
  have c3b1:(a0 !=((a0)%256))=false:=bne_eq_false_iff_eq.mpr c3
  clear c3
  replace H:=Option.bind_eq_some_iff.mp H
  obtain ⟨t116,A40,H⟩:=H
  replace H:(if t116=true then (some (([]:List Int),4)) else (texts_Text.l0 k (([(a0)%256]:List Int)) l1 (l1.length:Int) 0))=some (r1,r2):=H
  have A4:=z_ A40
  clear A40
  by_cases c5:t116=true
  ·subst c5
   have H1:(some (([]:List Int),4))=some (r1,r2):=by rw [if_pos rfl] at H;exact H
   clear H
   have H:=H1
   clear H1
   simp only [Option.some.injEq,Prod.mk.injEq] at H
   obtain ⟨rfl,rfl⟩:=H
   go_enter Tryz.func72,Tryz.ntmps72
   go_wp2_with (first|((with_reducible refine gate_callee (f:=82) rfl ?_);refine goesL_ (some 18) rfl rfl Tryz.func82 (by kernel_rfl) rfl #[.slice A1 l1.length c1,.func (.func 81) #[] #[]] rfl (by (try simp only [List.map_toArray,List.map_cons,List.map_nil]);first|done|rfl|(simp only [List.length_drop,List.length_take];rfl)) ?_;(with_reducible refine (slices_ContainsFunc_byte_byte.calls _ _ l1 81 true _ ?side1 ?side2 A4.out).mono ?_);(case side1=>repeat (first|exact HR1.out|(with_reducible refine Kd.C_alloc ?_ _)|(with_reducible refine Kd.C_drewN ?_ _)|(with_reducible refine Kd.C_drew ?_)));(case side2=>exact HC1.out);rintro e w' ⟨rfl,⟨nd,rfl⟩⟩;refine ⟨_,rfl,?_⟩))
   go_ret2
   exact ⟨_,by first|rfl|(simp [errW_none,errW_some]<;>rfl)|(simp [*,errW_none,errW_some]<;>rfl),by first|exact Kd.R_nil _ _ _ _ _|exact Kd.N_nil _ _ _ _ _|exact Kd.V_nil _ _ _ _ _|exact Kd.Q_nil _ _ _ _ _|exact Kd.S_nil _ _ _ _ _,by repeat (first|(with_reducible first|exact HB.out|apply below_alloc|apply pw_below_drewN|apply below_drew1)|exact HB.out)⟩
  ·replace c5:=Bool.eq_false_iff.mpr c5
   subst c5
   have H1:(texts_Text.l0 k (([(a0)%256]:List Int)) l1 (l1.length:Int) 0)=some (r1,r2):=by rw [if_neg (show ¬(false=true) by decide)] at H;exact H
   clear H
   have H:=H1
   clear H1
   obtain ⟨y117,hy117⟩ : ∃y_:List Int,y_=(([(a0)%256]:List Int)):=⟨_,rfl⟩
   replace H:(texts_Text.l0 k y117 l1 (l1.length:Int) 0)=some (r1,r2):=by first|(rw [hy117];with_reducible exact H)|(have H2_:=(Option.bind_some _ _).symm.trans H;rw [hy117];with_reducible exact H2_)|(have H2_:=(Option.bind_some _ _).symm.trans H;with_reducible exact H2_)|with_reducible exact H|(rw [hy117];exact H)|exact H
   have Ny117:=z_ hy117
   clear hy117
   have H':=z_ H
   clear H
   go_enter Tryz.func72,Tryz.ntmps72
   go_wp2_with (first|((with_reducible refine gate_callee (f:=82) rfl ?_);refine goesL_ (some 18) rfl rfl Tryz.func82 (by kernel_rfl) rfl #[.slice A1 l1.length c1,.func (.func 81) #[] #[]] rfl (by (try simp only [List.map_toArray,List.map_cons,List.map_nil]);first|done|rfl|(simp only [List.length_drop,List.length_take];rfl)) ?_;(with_reducible refine (slices_ContainsFunc_byte_byte.calls _ _ l1 81 false _ ?side1 ?side2 A4.out).mono ?_);(case side1=>repeat (first|exact HR1.out|(with_reducible refine Kd.C_alloc ?_ _)|(with_reducible refine Kd.C_drewN ?_ _)|(with_reducible refine Kd.C_drew ?_)));(case side2=>exact HC1.out);rintro e w' ⟨rfl,⟨nd,rfl⟩⟩;refine ⟨_,rfl,?_⟩)|((with_reducible refine gate_dst (N:=21) rfl ?_);refine Kd.R_lit (Kd.int .u8) _ 5 ?hg (N:=21) ?hd (xs:=([(a0)%256]:List Int)) (inner:=[.int .u8 ((a0)%256)]) (ok:=fun _=>True) (okp:=fun _=>True) ?hr ?hp (fun _ hk=>hk) trivial (Below.refl _ _) (Nat.le_refl _) (by simp) ?_;(case hd=>rfl);(case hg=>rfl);(case hr=>first|(go_simp;done)|(go_simp;rfl));(case hp=>exact (Reps.one (show Kd.M (Kd.int .u8) _ _ _ ((a0)%256) [.int .u8 ((a0)%256)] from rfl) (Reps.none _ _)));intro v118 w6 ho7 hb hg_ hnew_;clear hg_ hnew_;(first|rw [<-Ny117.out] at ho7|(simp only [Int.reduceToNat] at ho7;rw [<-Ny117.out] at ho7));have n0_:=z_ (Kd.R_lower ho7 (below_size (by repeat (first|(with_reducible first|exact HB.out|apply below_alloc|apply pw_below_drewN|apply below_drew1)|exact HB.out))));have n1_:=z_ (below_step (by repeat (first|(with_reducible first|exact HB.out|apply below_alloc|apply pw_below_drewN|apply below_drew1)|exact HB.out)) hb);clear HB;have HO119:=n0_;have HB:=n1_;clear n0_ n1_;clear hb ho7))
   go_loopg [7,24] k (fun kq v7 v24 w'=>∃(x7_1:List Int) (x24_1:Int),v24 = .int .i64 x24_1/\Aside0 (texts_Text.l0 kq x7_1 l1 (l1.length:Int) x24_1=some (r1,r2))/\Aside0 (kq<=k)/\Aside0 (Kd.R (Kd.int .u8) 5 w' w.heap.size (fun _=>True) v7 x7_1)/\Aside0 (Below w.heap.size w w'))
   case atStart=>exact ⟨(y117),(0),(by first|rfl|(simp;done)|(simp [*];done)),H',⟨Nat.le_refl _⟩,⟨by (with_reducible repeat (first|apply Kd.R_alloc|apply Kd.R_drewN|apply Kd.R_drew));exact HO119.out⟩,⟨by repeat (first|(with_reducible first|exact HB.out|apply below_alloc|apply pw_below_drewN|apply below_drew1)|exact HB.out)⟩⟩
   case round=>
    clear H'
    try clear c1
    try clear p2
    try clear c3
    try clear c3b0
    try clear c3b1
    try clear c5
    try clear c7
    obtain ⟨x7_1,x24_1,rfl,HA,HK1,HO_7,HB⟩:=hrel
    cases gk with
    | zero=>exact absurd HA.out (by simp [texts_Text.l0])
    | succ k1=>
      have H:=HA.out
      clear HA
      simp only [texts_Text.l0] at H
      by_cases c8:x24_1<(l1.length:Int)
      ·rw [if_pos c8] at H
       have c8b0:decide (x24_1<(l1.length:Int))=true:=decide_eq_true c8
       clear c8
       by_cases c9:0<=x24_1
       ·rw [if_pos c9] at H
        have c9b0:decide (0<=x24_1)=true:=decide_eq_true c9
        clear c9
        by_cases c10:x24_1<(l1.length:Int)
        ·rw [if_pos c10] at H
         have c10b0:decide (x24_1<(l1.length:Int))=true:=decide_eq_true c10
         clear c10
         obtain ⟨y121,hy121⟩ : ∃y_:List Int,y_=(([(((rd_L1 l1 x24_1).length:Int)/256)%256,(((rd_L1 l1 x24_1).length:Int))%256]:List Int)):=⟨_,rfl⟩
         replace H:(if x7_1.length+y121.length<140737488355328 then ((some (x7_1++y121:List Int)).bind fun y124=>(if y124.length+(rd_L1 l1 x24_1).length<140737488355328 then (texts_Text.l0 k1 (y124++(rd_L1 l1 x24_1)) l1 (l1.length:Int) (wrap64 (x24_1+1))) else (none))) else (none))=some (r1,r2):=by first|(rw [hy121];with_reducible exact H)|(have H2_:=(Option.bind_some _ _).symm.trans H;rw [hy121];with_reducible exact H2_)|(have H2_:=(Option.bind_some _ _).symm.trans H;with_reducible exact H2_)|with_reducible exact H|(rw [hy121];exact H)|exact H
         have Ny121:=z_ hy121
         clear hy121
         by_cases c11:x7_1.length+y121.length<140737488355328
         ·rw [if_pos c11] at H
          have LMc11:=z_ c11
          clear c11
          obtain ⟨y124,hy124⟩ : ∃y_:List Int,y_=(x7_1++y121):=⟨_,rfl⟩
          replace H:(if y124.length+(rd_L1 l1 x24_1).length<140737488355328 then (texts_Text.l0 k1 (y124++(rd_L1 l1 x24_1)) l1 (l1.length:Int) (wrap64 (x24_1+1))) else (none))=some (r1,r2):=by first|(rw [hy124];with_reducible exact H)|(have H2_:=(Option.bind_some _ _).symm.trans H;rw [hy124];with_reducible exact H2_)|(have H2_:=(Option.bind_some _ _).symm.trans H;with_reducible exact H2_)|with_reducible exact H|(rw [hy124];exact H)|exact H
          have Ny124:=z_ hy124
          clear hy124
          by_cases c12:y124.length+(rd_L1 l1 x24_1).length<140737488355328
          ·rw [if_pos c12] at H
           have LMc12:=z_ c12
           clear c12
           obtain ⟨y127,hy127⟩ : ∃y_:List Int,y_=(y124++(rd_L1 l1 x24_1)):=⟨_,rfl⟩
           replace H:(texts_Text.l0 k1 y127 l1 (l1.length:Int) (wrap64 (x24_1+1)))=some (r1,r2):=by first|(rw [hy127];with_reducible exact H)|(have H2_:=(Option.bind_some _ _).symm.trans H;rw [hy127];with_reducible exact H2_)|(have H2_:=(Option.bind_some _ _).symm.trans H;with_reducible exact H2_)|with_reducible exact H|(rw [hy127];exact H)|exact H
           have Ny127:=z_ hy127
           clear hy127
           have H':=z_ H
           clear H
           have p120:0<=(x24_1:Int):=of_decide_eq_true (by first|(with_reducible assumption)|assumption)
           have q120:x24_1<(l1.length:Int):=of_decide_eq_true (by first|(with_reducible assumption)|assumption)
           obtain ⟨ad120,A120_0,c120_0,e120,hx120_0,hl120_0,hi120_0⟩:=at_L1 HR1.out x24_1 p120 q120
           cases e120
           replace hx120_0:=(HB.out.cell (World.block_lt_of_cell? w _ hx120_0)).trans hx120_0
           have HR120_0:=z_ hi120_0
           have HC120_0:=z_ hl120_0
           clear hi120_0 hl120_0
           replace p120:=eq_true p120
           replace q120:=eq_true q120
           go_wp2_with (first|((with_reducible refine gate_dst (N:=36) rfl ?_);refine Kd.R_lit (Kd.int .u8) _ 5 ?hg (N:=36) ?hd (xs:=([(((rd_L1 l1 x24_1).length:Int)/256)%256,(((rd_L1 l1 x24_1).length:Int))%256]:List Int)) (inner:=[.int .u8 ((((rd_L1 l1 x24_1).length:Int)/256)%256),.int .u8 ((((rd_L1 l1 x24_1).length:Int))%256)]) (ok:=fun _=>True) (okp:=fun _=>True) ?hr ?hp (fun _ hk=>hk) trivial (Below.refl _ _) (Nat.le_refl _) (by simp) ?_;(case hd=>rfl);(case hg=>rfl);(case hr=>first|(go_simp;done)|(go_simp;rfl));(case hp=>exact (Reps.one (show Kd.M (Kd.int .u8) _ _ _ ((((rd_L1 l1 x24_1).length:Int)/256)%256) [.int .u8 ((((rd_L1 l1 x24_1).length:Int)/256)%256)] from rfl) (Reps.one (show Kd.M (Kd.int .u8) _ _ _ ((((rd_L1 l1 x24_1).length:Int))%256) [.int .u8 ((((rd_L1 l1 x24_1).length:Int))%256)] from rfl) (Reps.none _ _))));intro v122 w13 ho14 hb hg_ hnew_;clear hg_ hnew_;(first|rw [<-Ny121.out] at ho14|(simp only [Int.reduceToNat] at ho14;rw [<-Ny121.out] at ho14));have n0_:=z_ (Kd.R_elder' (by (with_reducible repeat (first|apply Kd.R_alloc|apply Kd.R_drewN|apply Kd.R_drew));exact HO_7.out) (Kd.R_base ho14) hb);have n1_:=z_ (Kd.R_lower (Kd.R_new' ho14 (Kd.R_lt (by (with_reducible repeat (first|apply Kd.R_alloc|apply Kd.R_drewN|apply Kd.R_drew));exact HO_7.out))) (below_size (by repeat (first|(with_reducible first|exact HB.out|apply below_alloc|apply pw_below_drewN|apply below_drew1)|exact HB.out))));have n2_:=z_ (below_step (by repeat (first|(with_reducible first|exact HB.out|apply below_alloc|apply pw_below_drewN|apply below_drew1)|exact HB.out)) hb);clear HO_7;clear HB;have HO_7:=n0_;have HO123:=n1_;have HB:=n2_;clear n0_ n1_ n2_;clear hb ho14;obtain ⟨Ao16,co16,eo16⟩:=Kd.R_slice HO123.out;subst eo16)|((with_reducible refine gate_builtin (b:=.append) (xs:=#[.tmp 30,.tmp 36]) rfl ?_);at_builtin;refine Kd.R_append_rows (Kd.int .u8) (w0:=w) w.heap.size rfl (.tmp 30) (.tmp 36) 23 5 (.int .u8 0) 1 rfl Tryz.underlying23 info5 rfl (by decide) (by omega) u7 x7_1 y121 _ _ _ (fun k_=>some k_≠(.slice Ao16 y121.length co16:Value).ownBlock) (fun _=>False) rfl rfl ?aO ?aR (fun _ _ h=>h) (fun _ h=>h.elim) ?aF ?aB ?aS ?aL ?_;(case aR=>repeat (first|exact (Kd.R_reads' HO123.out).2.2|(with_reducible refine Kd.C_alloc ?_ _)|(with_reducible refine Kd.C_drewN ?_ _)|(with_reducible refine Kd.C_drew ?_)));(case aB=>exact (by repeat (first|(with_reducible first|exact HB.out|apply below_alloc|apply pw_below_drewN|apply below_drew1)|exact HB.out)));(case aF=>exact (fun k_ hk=>Kd.fresh' (Kd.R_lt (by (with_reducible repeat (first|apply Kd.R_alloc|apply Kd.R_drewN|apply Kd.R_drew));exact HO123.out)) k_ hk));(case aO=>exact (by (with_reducible repeat (first|apply Kd.R_alloc|apply Kd.R_drewN|apply Kd.R_drew));exact Kd.R_mono HO_7.out (fun _ hk=>hk.2)));(case aS=>exact (below_size (by repeat (first|(with_reducible first|exact HB.out|apply below_alloc|apply pw_below_drewN|apply below_drew1)|exact HB.out))));(case aL=>have:=LMc11.out;omega);intro v125 w15 ho hb hg hat;rw [<-Ny124.out] at ho;have n0_:=z_ (Kd.R_after (ok:=(fun _=>True)) (by (with_reducible repeat (first|apply Kd.R_alloc|apply Kd.R_drewN|apply Kd.R_drew));exact HO123.out) hg hat);have n1_:=z_ (hb);have n2_:=z_ (ho);clear HO123;clear HB;clear HO_7;have HO123:=n0_;have HB:=n1_;have HO126:=n2_;clear n0_ n1_ n2_;clear ho hb hg hat)|((with_reducible refine gate_builtin (b:=.append) (xs:=#[.tmp 38,.tmp 39]) rfl ?_);at_builtin;refine Kd.R_append_rows (Kd.int .u8) (w0:=w) w.heap.size rfl (.tmp 38) (.tmp 39) 23 5 (.int .u8 0) 1 rfl Tryz.underlying23 info5 rfl (by decide) (by omega) v125 y124 (rd_L1 l1 x24_1) _ _ _ (fun k_=>some k_≠(.slice Ao16 y121.length co16:Value).ownBlock) (fun _=>False) rfl rfl ?aO ?aR (fun _ _ h=>h) (fun _ h=>h.elim) ?aF ?aB ?aS ?aL ?_;(case aR=>repeat (first|exact (Kd.C_below HR120_0.out HB.out)|(with_reducible refine Kd.C_alloc ?_ _)|(with_reducible refine Kd.C_drewN ?_ _)|(with_reducible refine Kd.C_drew ?_)));(case aB=>exact (by repeat (first|(with_reducible first|exact HB.out|apply below_alloc|apply pw_below_drewN|apply below_drew1)|exact HB.out)));(case aF=>exact (fun k_ hk=>Kd.fresh' (Kd.R_lt (by (with_reducible repeat (first|apply Kd.R_alloc|apply Kd.R_drewN|apply Kd.R_drew));exact HO123.out)) k_ hk));(case aO=>exact (by (with_reducible repeat (first|apply Kd.R_alloc|apply Kd.R_drewN|apply Kd.R_drew));exact HO126.out));(case aS=>exact (below_size (by repeat (first|(with_reducible first|exact HB.out|apply below_alloc|apply pw_below_drewN|apply below_drew1)|exact HB.out))));(case aL=>have:=LMc12.out;omega);intro v128 w17 ho hb hg hat;rw [<-Ny127.out] at ho;have n0_:=z_ (Kd.R_after (ok:=(fun _=>True)) (by (with_reducible repeat (first|apply Kd.R_alloc|apply Kd.R_drewN|apply Kd.R_drew));exact HO123.out) hg hat);have n1_:=z_ (hb);have n2_:=z_ (ho);clear HO123;clear HB;clear HO126;have HO123:=n0_;have HB:=n1_;have HO129:=n2_;clear n0_ n1_ n2_;clear ho hb hg hat))
           go_roundg k1
           case measure=>have:=HK1.out;omega
           case rel=>exact ⟨(y127),(wrap64 (x24_1+1)),(by first|rfl|(simp;done)|(simp [*];done)),H',⟨by have:=HK1.out;omega⟩,⟨by (with_reducible repeat (first|apply Kd.R_alloc|apply Kd.R_drewN|apply Kd.R_drew));exact Kd.R_mono HO129.out (fun _ hk=>trivial)⟩,⟨by repeat (first|(with_reducible first|exact HB.out|apply below_alloc|apply pw_below_drewN|apply below_drew1)|exact HB.out)⟩⟩
          ·rw [if_neg c12] at H
           exact absurd H (by simp)
         ·rw [if_neg c11] at H
          exact absurd H (by simp)
        ·rw [if_neg c10] at H
         exact absurd H (by simp)
       ·rw [if_neg c9] at H
        exact absurd H (by simp)
      ·rw [if_neg c8] at H
       have c8b0:decide (x24_1<(l1.length:Int))=false:=decide_eq_false c8
       clear c8
       simp only [Option.some.injEq,Prod.mk.injEq] at H
       obtain ⟨rfl,rfl⟩:=H
       go_wp2
       go_ret2
       exact ⟨_,by first|rfl|(simp [errW_none,errW_some]<;>rfl)|(simp [*,errW_none,errW_some]<;>rfl),by (with_reducible repeat (first|apply Kd.R_alloc|apply Kd.R_drewN|apply Kd.R_drew));exact HO_7.out,by repeat (first|(with_reducible first|exact HB.out|apply below_alloc|apply pw_below_drewN|apply below_drew1)|exact HB.out)⟩
 ·rw [if_neg c3] at H
  have c3b0:(a0==((a0)%256))=false:=beq_eq_false_iff_ne.mpr c3
  have c3b1:(a0 !=((a0)%256))=true:=bne_iff_ne.mpr c3
  simp only [Option.some.injEq,Prod.mk.injEq] at H
  obtain ⟨rfl,rfl⟩:=H
  go_enter Tryz.func72,Tryz.ntmps72
  go_wp2
  go_ret2
  exact ⟨_,by first|rfl|(simp [errW_none,errW_some]<;>rfl)|(simp [*,errW_none,errW_some]<;>rfl),by first|exact Kd.R_nil _ _ _ _ _|exact Kd.N_nil _ _ _ _ _|exact Kd.V_nil _ _ _ _ _|exact Kd.Q_nil _ _ _ _ _|exact Kd.S_nil _ _ _ _ _,by repeat (first|(with_reducible first|exact HB.out|apply below_alloc|apply pw_below_drewN|apply below_drew1)|exact HB.out)⟩
end Go.Proofs.YtdeneoknjeegbaaGreatDoor.P
end
section
namespace Go.Proofs.YtdeneoknjeegbaaGreatDoor.P
open Go.RowKit YtdeneoknjeegbaaGreatDoorW.PrintWords YtdeneoknjeegbaaGreatDoorW.PrintLast YtdeneoknjeegbaaGreatDoorW.PrintMore
def Sums.of (l:List Int):Sums:=⟨l.getD 0 0,l.getD 1 0,l.getD 2 0,l.getD 3 0,l.getD 4 0,l.getD 5 0,l.getD 6 0,l.getD 7 0⟩
theorem Sums.of_list (l:List Int) (h:l.length=8):(Sums.of l).list=l:=by
 match l,h with
 | [a,b,c,d,e,f,g,h],_=>rfl
theorem Sums.take_length (s:Sums) (bs:List Int):(s.take bs).length=8:=by
 unfold Sums.take
 rw [addW_length]
 rfl
def Sums.blocks (s:Sums) (bs:List Int):Nat->Sums
 | 0=>s
 | i+1=>Sums.of ((Sums.blocks s bs i).take (bs.drop (64*i)))
def Sums.first:Sums:=Sums.of shaFirst
def tailBlocks (n:Nat):Nat:=if n%64+9>64 then 2 else 1
def nblocks (n:Nat):Nat:=n/64+tailBlocks n
attribute [local go_sem] max2_int min2_int max_two min_two in
set_option maxHeartbeats 4000000 in
set_option maxRecDepth 100000 in
theorem blocks_calls (n:Nat) (hn:n<=140737488355328) (w:World):
 Calls Tryz.prog 89 #[.int .i64 (n:Int)] w fun e w'=>e = .returned (.int .i64 (nblocks n:Int))/\Below w.heap.size w w':=by
 have HB:=z_ (Below.refl w.heap.size w)
 obtain ⟨j,hj⟩ : ∃j:Int,j=(n:Int):=⟨_,rfl⟩
 have hj0 : ¬j<0:=by omega
 have hmx:(if j<0 then 0 else j)=j:=if_neg hj0
 have hjm:j<=140737488355328:=by omega
 have hj1:0<=j:=by omega
 rw [<-hj]
 have hw0:wrap64 (j/64)=j/64:=by unfold wrap64;omega
 have hw1:wrap64 (j/64+1)=j/64+1:=by unfold wrap64;omega
 have hw2:wrap64 (j/64+1+1)=j/64+1+1:=by unfold wrap64;omega
 by_cases c4:j%64+1+8>64
 ·have c4b0:decide (64<j%64+1+8)=true:=decide_eq_true c4
  have hr:j/64+1+1=(nblocks n:Int):=by unfold nblocks tailBlocks;rw [if_pos (by omega)];omega
  have HR:=z_ hr
  clear hr c4 hj
  go_enter Tryz.func89,Tryz.ntmps89
  go_wp2
  go_ret
  exact ⟨by rw [<-HR.out];rfl,by repeat (first|(with_reducible first|exact HB.out|apply below_alloc|apply pw_below_drewN|apply below_drew1)|exact HB.out)⟩
 ·have c4b0:decide (64<j%64+1+8)=false:=decide_eq_false c4
  have hr:j/64+1=(nblocks n:Int):=by unfold nblocks tailBlocks;rw [if_neg (by omega)];omega
  have HR:=z_ hr
  clear hr c4 hj
  go_enter Tryz.func89,Tryz.ntmps89
  go_wp2
  go_ret
  exact ⟨by rw [<-HR.out];rfl,by repeat (first|(with_reducible first|exact HB.out|apply below_alloc|apply pw_below_drewN|apply below_drew1)|exact HB.out)⟩
def IsBytes (w:World) (g t:Nat) (xs:List Int):Prop:=w.heap[g]? = some (.cells (xs.map (Value.int .u8)).toArray t (0,0))
theorem IsBytes.cell {w:World} {g t:Nat} {xs:List Int} (h:IsBytes w g t xs) (i:Nat) (hi:i<xs.length):w.cell? ⟨g,i,none⟩=some (.int .u8 (xs.getD i 0)):=by
 refine (blk_cell h i).trans ?_
 rw [List.getElem?_toArray,List.getElem?_map,List.getElem?_eq_getElem hi,List.getD_eq_getElem?_getD,List.getElem?_eq_getElem hi]
 rfl
theorem IsBytes.frozen {w:World} {g t:Nat} {xs:List Int} (h:IsBytes w g t xs) (i:Nat):w.frozen? ⟨g,i,none⟩=false:=blk_frozen h i
theorem IsBytes.set {w:World} {g t:Nat} {xs:List Int} (h:IsBytes w g t xs) (i:Nat) (x:Int):IsBytes (w.setCell ⟨g,i,none⟩ (.int .u8 x)) g t (xs.set i x):=by
 unfold IsBytes
 have e:((xs.set i x).map (Value.int .u8)).toArray=((xs.map (Value.int .u8)).toArray).setIfInBounds i (.int .u8 x):=by rw [List.map_set];simp
 rw [e]
 exact blk_set h i _
theorem IsBytes.C {w:World} {g t o n:Nat} {xs:List Int} (h:IsBytes w g t xs) (hn:o+n<=xs.length) (hm:n<=9223372036854775807):Kd.C (Kd.int .u8) w (some ⟨g,o,none⟩) n ((xs.drop o).take n):=by
 refine Kd.C_of_reads (h1:=fun _=>rfl) (d:=0) ⟨by rw [List.length_take,List.length_drop];omega,hm,fun _=>⟨_,rfl,fun j hj=>?_⟩⟩
 have:=h.cell (o+j) (by omega)
 rw [show (Addr.add ⟨g,o,none⟩ j)=⟨g,o+j,none⟩ from by simp [Addr.add]]
 rw [this]
 simp [List.getElem?_take,hj]
theorem IsBytes.R {w:World} {g e n base:Nat} {xs:List Int} (h:IsBytes w g e xs) (hb:base<=g) (hn:xs.length=n) (hm:n<=maxLen):Kd.R (Kd.int .u8) e w base (fun _=>True) (.slice (some ⟨g,0,none⟩) n n) xs:=by
 subst hn
 refine Kd.R_of_own ⟨by simp [encs_length],.inr ⟨g,xs.length,_,rfl,hb,h,Nat.le_refl _,hm,by simp,by simp [encs,List.take_of_length_le]⟩⟩ (fun _ _=>trivial)
theorem IsBytes.lt {w:World} {g t:Nat} {xs:List Int} (h:IsBytes w g t xs):g<w.heap.size:=by
 unfold IsBytes at h
 obtain ⟨hl,-⟩:=Array.getElem?_eq_some_iff.1 h
 exact hl
theorem IsBytes.below {w w1:World} {g t B:Nat} {xs:List Int} (h:IsBytes w g t xs) (hb:Below B w w1) (hg:g<B):IsBytes w1 g t xs:=(hb.block g hg).trans h
theorem IsWords.lt {w:World} {g t:Nat} {xs:List Int} (h:IsWords w g t xs):g<w.heap.size:=by
 unfold IsWords at h
 obtain ⟨hl,-⟩:=Array.getElem?_eq_some_iff.1 h
 exact hl
theorem IsWords.below {w w1:World} {g t B:Nat} {xs:List Int} (h:IsWords w g t xs) (hb:Below B w w1) (hg:g<B):IsWords w1 g t xs:=(hb.block g hg).trans h
theorem copy_src {w:World} {A:Option Addr} {n:Nat} {xs:List Int} (h:Kd.C (Kd.int .u8) w A n xs) (g:Nat):
 0<(xs.map (Value.int .u8)).length->some (⟨g,0,none⟩:Addr)=some ⟨g,0,none⟩/\∃ad,A=some ad/\∀j v,(xs.map (Value.int .u8))[j]? = some v->w.cell? (ad.add j)=some v:=by
 intro hp
 have hr:=Kd.reads_of_C (d:=0) h
 rw [List.length_map] at hp
 obtain ⟨ad,e,hc⟩:=hr.2.2 (by have:=hr.1;omega)
 refine ⟨rfl,ad,e,fun j v hj=>?_⟩
 rw [List.getElem?_map] at hj
 obtain ⟨x,hx,rfl⟩:=Option.map_eq_some_iff.1 hj
 obtain ⟨hl,-⟩:=List.getElem?_eq_some_iff.1 hx
 rw [hc j (by have:=hr.1;omega)]
 simp [hx]
theorem IsBytes.of_splice {w:World} {g t n:Nat} {xs:List Int} (h:w.heap[g]? = some (.cells (splice (List.replicate n (Value.int .u8 0)) 0 (xs.map (Value.int .u8))).toArray t (0,0))):IsBytes w g t (xs++List.replicate (n-xs.length) 0):=by
 unfold IsBytes
 rw [h]
 simp [splice]
theorem pad_get (xs:List Int) (n:Nat) (h:xs.length<n):(xs++List.replicate (n-xs.length) (0:Int)).getD xs.length 0=0:=by
 rw [List.getD_eq_getElem?_getD,List.getElem?_append_right (Nat.le_refl _),Nat.sub_self,List.getElem?_replicate,if_pos (by omega)]
 rfl
def tail0 (rest:List Int):List Int:=(rest++List.replicate (128-rest.length) 0).set rest.length 128
def tailLen (m:Nat):Nat->Nat->Nat->List Int->List Int
 | 0,_,_,ys=>ys
 | k+1,x,i,ys=>if 0<x then tailLen m k (x/256) (i+1) (ys.set (m-i) ((x%256:Nat):Int)) else ys
def tailSize (n:Nat):Nat:=64*tailBlocks n
def tailOf (bs:List Int):List Int:=tailLen (tailSize bs.length) 8 (bs.length*8) 1 (tail0 (bs.drop (64*(bs.length/64))))
def wordByte (ws:List Int) (i:Nat):Int:=ws.getD (i/4) 0/2^(8*(3-i%4))%256
theorem wordByte_0 (ws:List Int) (i:Nat) (h:i%4=0):wordByte ws i=ws[i/4]?.getD 0/16777216%256:=by unfold wordByte;rw [h,List.getD_eq_getElem?_getD];rfl
theorem wordByte_1 (ws:List Int) (i:Nat) (h:i%4=1):wordByte ws i=ws[i/4]?.getD 0/65536%256:=by unfold wordByte;rw [h,List.getD_eq_getElem?_getD];rfl
theorem wordByte_2 (ws:List Int) (i:Nat) (h:i%4=2):wordByte ws i=ws[i/4]?.getD 0/256%256:=by unfold wordByte;rw [h,List.getD_eq_getElem?_getD];rfl
theorem wordByte_3 (ws:List Int) (i:Nat) (h:i%4=3):wordByte ws i=ws[i/4]?.getD 0%256:=by unfold wordByte;rw [h,List.getD_eq_getElem?_getD,show (2:Int)^(8*(3-3))=1 from rfl,Int.ediv_one]
def outB (ws:List Int):Nat->List Int
 | 0=>List.replicate 32 0
 | i+1=>(outB ws i).set i (wordByte ws i)
theorem outB_length (ws:List Int) (k:Nat):(outB ws k).length=32:=by
 induction k with
 | zero=>rfl
 | succ k ih=>simp [outB,ih]
def shaSum (bs:List Int):List Int:=
 outB (Sums.blocks (Sums.blocks Sums.first bs (bs.length/64)) ((tailOf bs).take (tailSize bs.length)) (tailBlocks bs.length)).list 32
set_option maxHeartbeats 4000000 in
set_option maxRecDepth 100000 in
theorem sum_any (A0:Option Addr) (cap:Nat) (bs:List Int) (w:World) (hr:Kd.C (Kd.int .u8) w A0 bs.length bs) (hc:bs.length<=cap) (hb:bs.length<=140737488355328) (hGS:GlobS w):
 Calls Tryz.prog 83 #[.slice A0 bs.length cap] w fun e w'=>∃v0_,e = .returned v0_/\Kd.R (Kd.int .u8) 5 w' w.heap.size (fun _=>True) v0_ (shaSum bs)/\Below w.heap.size w w':=by
 obtain ⟨k0,k1,k2,k3,k4,k5,k6,k7⟩:w.cell? ⟨0,0,none⟩=some (.int .u32 1779033703)/\w.cell? ⟨0,1,none⟩=some (.int .u32 3144134277)/\w.cell? ⟨0,2,none⟩=some (.int .u32 1013904242)/\w.cell? ⟨0,3,none⟩=some (.int .u32 2773480762)/\w.cell? ⟨0,4,none⟩=some (.int .u32 1359893119)/\w.cell? ⟨0,5,none⟩=some (.int .u32 2600822924)/\w.cell? ⟨0,6,none⟩=some (.int .u32 528734635)/\w.cell? ⟨0,7,none⟩=some (.int .u32 1541459225):=
  ⟨hGS.1 0 (by omega),hGS.1 1 (by omega),hGS.1 2 (by omega),hGS.1 3 (by omega),hGS.1 4 (by omega),hGS.1 5 (by omega),hGS.1 6 (by omega),hGS.1 7 (by omega)⟩
 have HR:=z_ hr
 have HC:=z_ hc
 have HGS:=z_ hGS
 have HBB:=z_ hb
 clear hr hc hGS
 go_enter Tryz.func83,Tryz.ntmps83
 go_wp2_with fail
 clear k0 k1 k2 k3 k4 k5 k6 k7
 obtain ⟨gS,hgS⟩ : ∃g,g=w.heap.size:=⟨_,rfl⟩
 rw [<-hgS]
 have HGg:=z_ hgS
 clear hgS
 go_loopw [0] (fun v0 wr=>∃(i:Nat) (A:Option Addr) (c:Nat),64*i<=bs.length/\v0 = .slice A (bs.drop (64*i)).length c/\Aside0 ((bs.drop (64*i)).length<=c)/\Aside0 (Kd.C (Kd.int .u8) w A (bs.drop (64*i)).length (bs.drop (64*i)))/\Aside0 (IsWords wr gS 125 (Sums.blocks Sums.first bs i).list)/\Aside0 (Below w.heap.size w wr)) (fun v0 _=>match v0 with | .slice _ n _=>n|_=>0)
 case atStart=>exact ⟨0,A0,cap,by omega,rfl,HC,HR,⟨by rw [HGg.out];exact heap_alloc_new w _⟩,⟨below_alloc (Below.refl _ _) _⟩⟩
 case round=>
  obtain ⟨i,A,c,hi,rfl,HCi,HRi,HI,HB⟩:=hrel
  obtain ⟨rs,hrs⟩ : ∃rs,rs=bs.drop (64*i):=⟨_,rfl⟩
  have hrl:rs.length=bs.length-64*i:=by rw [hrs,List.length_drop]
  rw [<-hrs] at HCi HRi
  rw [<-hrs]
  have HRS:=z_ hrs
  have HRL:=z_ hrl
  clear hrs
  by_cases hlt:64<=rs.length
  ·have hd:decide ((64:Int)<=(rs.length:Int))=true:=by simp;omega
   have HLT:=z_ hlt
   have hle:rs.length<9223372036854775807:=by omega
   clear hrl
   obtain ⟨i0,hi0,_,hsz0,_⟩:=info_parts info5
   obtain ⟨A2,hcut,hA2,hC2⟩:=print_drop_of (P:=Tryz.prog) (Value.int .u8) 0 23 5 .i64 Tryz.underlying23 hi0 hsz0 A c rs 64 (by omega) (by omega) HCi.out
   have HA2:=z_ (Kd.C_of_reads (h1:=fun _=>rfl) (hA2 _ (Kd.reads_of_C HRi.out)))
   have HC2:=z_ hC2
   clear hA2 hC2 hi0 hsz0
   go_wp2_with fail
   refine (take_calls gS _ A c rs w _ HI.out (by rw [HGg.out];exact Nat.le_refl _) (Kd.C_below HRi.out HB.out) HCi.out hlt hle HB.out HGS.out).mono ?_
   rintro e2 w2 ⟨rfl,hI2,hB2,hK2⟩
   have HI2:=z_ hI2
   have HB2:=z_ hB2
   clear hI2 hB2 hK2 HI HB
   go_wp2_with fail
   have hdr:rs.drop 64=bs.drop (64*(i+1)):=by rw [HRS.out,List.drop_drop];congr 1
   have hln:(bs.drop (64*(i+1))).length=rs.length-64:=by rw [<-hdr,List.length_drop]
   have hrl:=HRL.out
   refine ⟨⟨i+1,A2,c-64,by omega,by rw [hln],?_,?_,?_,HB2⟩,?_⟩
   ·exact ⟨by rw [<-hdr];exact HC2.out⟩
   ·exact ⟨by rw [<-hdr];exact HA2.out⟩
   ·exact ⟨by show IsWords w2 gS 125 (Sums.of ((Sums.blocks Sums.first bs i).take (bs.drop (64*i)))).list;rw [Sums.of_list _ (Sums.take_length _ _),<-HRS.out];exact HI2.out⟩
   ·show rs.length-64<rs.length;omega
  ·have hd:decide ((64:Int)<=(rs.length:Int))=false:=by simp;omega
   have HLT:=z_ hlt
   clear hrl
   have hl64:rs.length<64:=by omega
   obtain ⟨W1,hW1⟩ : ∃W1,W1=wr.alloc (Obj.cells Tryz.zeroCells127 127):=⟨_,rfl⟩
   have HTAIL:W1.heap[wr.heap.size]? = some (.cells (List.replicate 128 (Value.int .u8 0)).toArray 127 (0,0)):=by rw [hW1];exact heap_alloc_new wr _
   have hBW:Below wr.heap.size wr W1:=by rw [hW1];exact below_alloc (Below.refl _ _) _
   have hcs:=copy_src (Kd.C_below (Kd.C_below HRi.out HB.out) hBW) wr.heap.size
   go_wp2_with (refine wpList_copy_splice rfl (.tmp 21) (.tmp 22) 23 23 rfl 5 Tryz.underlying23 (by kernel_rfl) (some ⟨wr.heap.size,0,none⟩) A 128 128 rs.length c rfl rfl wr.heap.size 0 (List.replicate 128 (.int .u8 0)) 127 (by rw [<-hW1];exact HTAIL) (rs.map (Value.int .u8)) (by rw [List.length_map];exact (Nat.min_eq_left (by omega)).symm) (by rw [<-hW1];exact hcs) (by simp;omega) (by simp [Value.oneCell']) wr.heap.size _ (Below.refl _ _) (Nat.le_refl _) ?_;intro w2 HG2 hB2;have hTB:=IsBytes.of_splice HG2.out;have hc2:=hTB.cell rs.length (by simp;omega);have hf2:=hTB.frozen rs.length;rw [pad_get rs 128 (by omega)] at hc2)
   refine (blocks_calls bs.length HBB.out _).mono ?_
   rintro e3 w3 ⟨rfl,hB3⟩
   have hT3:IsBytes w3 wr.heap.size 127 (tail0 rs):=(hTB.set rs.length 128).below hB3 (by have:=hTB.lt;simpa using this)
   rw [<-hW1] at hB2
   have hB4:Below wr.heap.size wr w3:=((hBW.trans hB2).setCell (p:=⟨wr.heap.size,rs.length,none⟩) (Nat.le_refl _) _).trans (hB3.mono (by have:=hTB.lt;simpa using Nat.le_of_lt this))
   have HI3:Aside0 (IsWords w3 gS 125 (Sums.blocks Sums.first bs i).list):=⟨HI.out.below hB4 HI.out.lt⟩
   have HB3:Aside0 (Below w.heap.size w w3):=⟨HB.out.trans (hB4.mono HB.out.size)⟩
   obtain ⟨tg,htg⟩ : ∃tg,tg=wr.heap.size:=⟨_,rfl⟩
   have hgt:gS<tg:=by rw [htg];exact HI.out.lt
   have hwt:w.heap.size<=tg:=by rw [htg];exact HB.out.size
   rw [<-htg] at hT3
   rw [<-htg]
   have HT3:=z_ hT3
   obtain ⟨d,hd2⟩ : ∃d,d=tailBlocks bs.length:=⟨_,rfl⟩
   have hd12:d=1\/d=2:=by rw [hd2];unfold tailBlocks;split<;>simp
   obtain ⟨m,hm⟩ : ∃m,m=64*d:=⟨_,rfl⟩
   have hmt:m=tailSize bs.length:=by rw [hm,hd2];rfl
   obtain ⟨nb,hnb⟩ : ∃nb:Int,nb=(nblocks bs.length:Int):=⟨_,rfl⟩
   have hnq:nb=(bs.length:Int)/64+(d:Int):=by rw [hnb,hd2];unfold nblocks;omega
   rw [<-hnb]
   have e1:nb-(bs.length:Int)/64=(d:Int):=by omega
   have e2:(64:Int)*(d:Int)=(m:Int):=by omega
   have e3:IntKind.i64.wrap (d:Int)=(d:Int):=(by rw [IntKind.wrap_i64];omega)
   have e4:IntKind.i64.wrap (m:Int)=(m:Int):=(by rw [IntKind.wrap_i64];omega)
   have e5:(m:Int)<=128:=by omega
   have e6:(0:Int)<=(m:Int):=by omega
   have HDT:=z_ hd2
   have HM:=z_ hm
   have HMT:=z_ hmt
   have HD:=z_ hd12
   have HHG:=z_ hgt
   have HHW:=z_ hwt
   clear hT3 htg hB4 hB3 hTB hc2 hf2 hB2 HG2 hBW hcs HTAIL hW1 hm hmt hd12 hnb hnq hd2 hgt hwt hd
   go_wp2_with fail
   obtain ⟨T,hT⟩ : ∃T,T=tailLen m 8 (bs.length*8) 1 (tail0 rs):=⟨_,rfl⟩
   have HTT:=z_ hT
   have ht0:(tail0 rs).length=128:=by unfold tail0;rw [List.length_set,List.length_append,List.length_replicate];omega
   go_loopw [7,8] (fun v7 v8 wq=>∃(f x q:Nat) (ys:List Int),v7 = .int .i64 (q:Int)/\v8 = .int .u64 (x:Int)/\Aside0 (x<256^f)/\Aside0 (q+f=9/\1<=q/\ys.length=128)/\Aside0 (tailLen m f x q ys=T)/\Aside0 (IsBytes wq tg 127 ys)/\Aside0 (IsWords wq gS 125 (Sums.blocks Sums.first bs i).list)/\Aside0 (Below w.heap.size w wq)) (fun _ v8 _=>(intOf v8).toNat)
   case atStart=>exact ⟨8,bs.length*8,1,tail0 rs,by go_num,by go_num,⟨by have:=HBB.out;omega⟩,⟨by omega,by omega,ht0⟩,⟨HTT.out.symm⟩,HT3,HI3,HB3⟩
   case round=>
    obtain ⟨f,x,q,ys,rfl,rfl,HX,HQ,HTl,HTq,HIq,HBq⟩:=hrel
    clear HT3 HI3 HB3 ht0 hT
    by_cases hx0:0<x
    ·have hd:decide ((0:Int)<(x:Int))=true:=by simp;omega
     obtain ⟨f,rfl⟩ : ∃f',f=f'+1:=by
      cases f with
      | zero=>have:=HX.out;omega
      | succ f=>exact ⟨f,rfl⟩
     have hq9:=HQ.out
     obtain ⟨mq,hmq⟩ : ∃mq,mq=m-q:=⟨_,rfl⟩
     have hmv:=HM.out
     have hdv:=HD.out
     have g1:(m:Int)-(q:Int)=(mq:Int):=by omega
     have g2:IntKind.i64.wrap (mq:Int)=(mq:Int):=(by rw [IntKind.wrap_i64];omega)
     have g3:(mq:Int)<(m:Int):=by omega
     have hq7:(q:Int)<10:=by omega
     have hcq:=HTq.out.cell mq (by omega)
     have hfq:=HTq.out.frozen mq
     have HMQ:=z_ hmq
     clear hmq hq9 hmv hdv
     go_wp2_with fail
     have hq9:=HQ.out
     have hxf:=HX.out
     have e:(x:Int)%256=((x%256:Nat):Int):=by omega
     refine ⟨⟨f,x/256,q+1,ys.set mq ((x%256:Nat):Int),by go_num,by go_num,⟨by rw [Nat.pow_succ] at hxf;omega⟩,⟨by omega,by omega,by rw [List.length_set];omega⟩,⟨?_⟩,⟨?_⟩,⟨?_⟩,⟨HBq.out.setCell (by show w.heap.size<=tg;exact HHW.out) _⟩⟩,?_⟩
     ·rw [<-HTl.out,tailLen,if_pos hx0,<-HMQ.out]
     ·rw [e];exact HTq.out.set mq _
     ·exact (KeepBut.refl _ tg none |>.set_ _ _).blk HIq.out (by have:=HHG.out;omega) (by simp)
     ·simp only [intOf];omega
    ·have hd:decide ((0:Int)<(x:Int))=false:=by simp;omega
     obtain rfl:x=0:=by omega
     have hTy:ys=T:=by rw [<-HTl.out];cases f<;>rfl
     subst hTy
     clear HTl HX
     have HL:=z_ HQ.out.2.2
     clear HQ
     go_wp2_with fail
     have hmd:=HM.out
     have hd12:=HD.out
     go_loopw [6] (fun v6 wz=>∃(k n c:Nat) (A:Option Addr),k<=d/\v6 = .slice A n c/\n+64*k=m/\n<=c/\(k<d->A=some ⟨tg,64*k,none⟩)/\Aside0 (IsBytes wz tg 127 ys)/\Aside0 (IsWords wz gS 125 (Sums.blocks (Sums.blocks Sums.first bs i) (ys.take m) k).list)/\Aside0 (Below w.heap.size w wz)) (fun v6 _=>match v6 with | .slice _ n _=>n|_=>0)
     case atStart=>exact ⟨0,m,128,_,by omega,rfl,by omega,by omega,fun _=>rfl,HTq,HIq,HBq⟩
     case round=>
      obtain ⟨k,n,c,A,hk,rfl,hnm,hnc,hA,HTz,HIz,HBz⟩:=hrel
      clear HTq HIq HBq
      by_cases hkd:k<d
      ·obtain rfl:=hA hkd
       clear hA
       obtain ⟨us,hus⟩ : ∃us,us=(ys.drop (64*k)).take n:=⟨_,rfl⟩
       have hyl:=HL.out
       have hul:us.length=n:=by rw [hus,List.length_take,List.length_drop];omega
       have hCu:=HTz.out.C (o:=64*k) (n:=n) (by omega) (by omega)
       rw [<-hus] at hCu
       have HCU:=z_ hCu
       have HUS:=z_ hus
       clear hCu hus
       obtain rfl:=hul
       have hd:decide ((0:Int)<(us.length:Int))=true:=by simp;omega
       have hu64:(64:Int)<=(us.length:Int):=by omega
       have hu65:(us.length:Int)<=(c:Int):=by omega
       have hgS:=HHG.out
       go_wp2_with fail
       refine (take_calls gS _ (some ⟨tg,64*k,none⟩) c us w _ HIz.out (by rw [HGg.out];exact Nat.le_refl _) HCU.out hnc (by omega) (by omega) HBz.out HGS.out).mono ?_
       rintro e2 w2 ⟨rfl,hI2,hB2,hK2⟩
       have HI2:=z_ hI2
       have HB2:=z_ hB2
       have HT2:=z_ (show IsBytes w2 tg 127 ys from hK2.blk HTz.out (by omega) (by simp))
       clear hI2 hB2 hK2 HIz HBz HTz
       go_wp2_with fail
       have hus2:=HUS.out
       refine ⟨⟨k+1,us.length-64,c-64,_,by omega,rfl,by omega,by omega,fun hk1=>?_,HT2,⟨?_⟩,HB2⟩,?_⟩
       ·rw [if_neg (by omega),show 64*(k+1)=64*k+64 from by omega]
       ·show IsWords _ gS 125 (Sums.of ((Sums.blocks (Sums.blocks Sums.first bs i) (ys.take m) k).take ((ys.take m).drop (64*k)))).list
        rw [Sums.of_list _ (Sums.take_length _ _),List.drop_take,show m-64*k=us.length from by omega,<-hus2]
        exact HI2.out
       ·show us.length-64<us.length
        omega
      ·obtain rfl:k=d:=by omega
       obtain rfl:n=0:=by omega
       clear hA
       have hd:decide ((0:Int)<((0:Nat):Int))=false:=by decide
       clear hd
       have hmk : ∀W:World,(Instr.makeSlice 23 (.int .i64 32) (.int .i64 32)).run Tryz.prog W = .ok (.slice (some ⟨W.heap.size,0,none⟩) 32 32) (W.alloc (Obj.cells (((List.replicate 32 (0:Int)).map (Value.int .u8)).toArray) 5 (0,0))):=fun _=>by kernel_rfl
       have hd:decide ((0:Int)<((0:Nat):Int))=false:=by decide
       go_wp2_with fail
       obtain ⟨ss,hss⟩ : ∃ss,ss=Sums.blocks (Sums.blocks Sums.first bs i) (ys.take m) k:=⟨_,rfl⟩
       have HSS:=z_ hss
       rw [<-hss] at HIz
       obtain ⟨og,hog⟩ : ∃og,og=wr.heap.size:=⟨_,rfl⟩
       have hog2:og=wr.heap.size:=hog
       rw [<-hog]
       have HOG:w.heap.size<=og:=by rw [hog];exact HBz.out.size
       have hgo:gS<og:=by rw [hog];exact HIz.out.lt
       have HOGG:=z_ HOG
       have HGO:=z_ hgo
       have hAl:Below wr.heap.size wr (wr.alloc (Obj.cells (((List.replicate 32 (0:Int)).map (Value.int .u8)).toArray) 5 (0,0))):=below_alloc (Below.refl _ _) _
       clear hss hog hd HOG hgo HTz hmk
       go_loopw [59] (fun v59 wq=>∃j:Nat,j<=32/\v59 = .int .i64 (j:Int)/\Aside0 (IsBytes wq og 5 (outB ss.list j))/\Aside0 (IsWords wq gS 125 ss.list)/\Aside0 (Below w.heap.size w wq)) (fun v59 _=>32-(intOf v59).toNat)
       case atStart=>exact ⟨0,by omega,rfl,⟨by rw [hog2];exact heap_alloc_new wr _⟩,⟨HIz.out.below hAl HIz.out.lt⟩,⟨HBz.out.trans (hAl.mono HBz.out.size)⟩⟩
       case round=>
        obtain ⟨j,hj,rfl,HOj,HIj,HBj⟩:=hrel
        clear HIz HBz hAl hog2
        by_cases hj32:j<32
        ·have hd:decide ((j:Int)<32)=true:=by simp;omega
         obtain ⟨j4,hj4⟩ : ∃j4,j4=j/4:=⟨_,rfl⟩
         have g1:(j:Int)/4=(j4:Int):=by omega
         have g2:j4<8:=by omega
         have hcw:=HIj.out.cell j4 (by show j4<8;omega)
         have hlo:(outB ss.list j).length=32:=outB_length _ _
         have hco:=HOj.out.cell j (by omega)
         have hfo:=HOj.out.frozen j
         have HJ4:=z_ hj4
         clear hj4 hlo
         have hr4:(j:Int)%4=0\/(j:Int)%4=1\/(j:Int)%4=2\/(j:Int)%4=3:=by omega
         rcases hr4 with hr4|hr4|hr4|hr4
         ·go_wp2_with fail
          have hwb:wordByte ss.list j=ss.list[j4]?.getD 0/16777216%256:=by rw [wordByte_0 _ _ (by omega),<-HJ4.out]
          refine ⟨⟨j+1,by omega,by go_num,⟨?_⟩,⟨(KeepBut.refl _ og none |>.set_ _ _).blk HIj.out (by have:=HGO.out;omega) (by simp)⟩,⟨HBj.out.setCell (by show w.heap.size<=og;exact HOGG.out) _⟩⟩,by simp only [intOf];omega⟩
          rw [<-hwb]
          exact HOj.out.set j _
         ·go_wp2_with fail
          have hwb:wordByte ss.list j=ss.list[j4]?.getD 0/65536%256:=by rw [wordByte_1 _ _ (by omega),<-HJ4.out]
          refine ⟨⟨j+1,by omega,by go_num,⟨?_⟩,⟨(KeepBut.refl _ og none |>.set_ _ _).blk HIj.out (by have:=HGO.out;omega) (by simp)⟩,⟨HBj.out.setCell (by show w.heap.size<=og;exact HOGG.out) _⟩⟩,by simp only [intOf];omega⟩
          rw [<-hwb]
          exact HOj.out.set j _
         ·go_wp2_with fail
          have hwb:wordByte ss.list j=ss.list[j4]?.getD 0/256%256:=by rw [wordByte_2 _ _ (by omega),<-HJ4.out]
          refine ⟨⟨j+1,by omega,by go_num,⟨?_⟩,⟨(KeepBut.refl _ og none |>.set_ _ _).blk HIj.out (by have:=HGO.out;omega) (by simp)⟩,⟨HBj.out.setCell (by show w.heap.size<=og;exact HOGG.out) _⟩⟩,by simp only [intOf];omega⟩
          rw [<-hwb]
          exact HOj.out.set j _
         ·go_wp2_with fail
          have hwb:wordByte ss.list j=ss.list[j4]?.getD 0%256:=by rw [wordByte_3 _ _ (by omega),<-HJ4.out]
          refine ⟨⟨j+1,by omega,by go_num,⟨?_⟩,⟨(KeepBut.refl _ og none |>.set_ _ _).blk HIj.out (by have:=HGO.out;omega) (by simp)⟩,⟨HBj.out.setCell (by show w.heap.size<=og;exact HOGG.out) _⟩⟩,by simp only [intOf];omega⟩
          rw [<-hwb]
          exact HOj.out.set j _
        ·obtain rfl:j=32:=by omega
         have hd:decide (((32:Nat):Int)<32)=false:=by decide
         go_wp2_with fail
         go_ret
         have hrl:=HRL.out
         have hi64:i=bs.length/64:=by omega
         have hfin:outB ss.list 32=shaSum bs:=by
          unfold shaSum
          rw [HSS.out,HDT.out,HMT.out,hi64]
          unfold tailOf
          rw [<-hi64,<-HRS.out,<-HMT.out,<-HTT.out]
         rw [<-hfin]
         exact ⟨_,rfl,HOj.out.R HOGG.out (outB_length _ _) (by decide),HBj.out⟩
end Go.Proofs.YtdeneoknjeegbaaGreatDoor.P
end
section
namespace Go.Proofs.YtdeneoknjeegbaaGreatDoor.P
open Go.RowKit YtdeneoknjeegbaaGreatDoorW.PrintWords YtdeneoknjeegbaaGreatDoorW.PrintLast YtdeneoknjeegbaaGreatDoorW.PrintMore
theorem shaSum_length (bs:List Int):(shaSum bs).length=32:=outB_length _ _
def sha_Sum.f (l0:List Int):Option (List Int):=if l0.length<=140737488355328 then some (shaSum l0) else none
def sha_Cut.f (a0:Int) (l1:List Int):Option (List Int):=if l1.length<=140737488355328 then some ((shaSum l1).take (mn (mx a0 0) 32).toNat) else none
attribute [local go_sem] max2_int min2_int max_two min_two
set_option maxHeartbeats 1000000 in
set_option maxRecDepth 100000 in
theorem sha_Cut.calls (a0:Int) (A1:Option Addr) (c1:Nat) (l1:List Int) (r:List Int) (w:World) (hr1:Kd.C (Kd.int .u8) w A1 l1.length l1) (hc1:l1.length<=c1) (hGS:GlobS w) (h:sha_Cut.f a0 l1=some r):
 Calls Tryz.prog 73 #[.int .i64 a0,.slice A1 l1.length c1] w fun e w'=>∃v0_:Value,e = .returned (v0_)/\Kd.V (Kd.int .u8) 5 w' w.heap.size (fun k_=>w.heap.size<=k_) v0_ r/\Below w.heap.size w w':=by
 unfold sha_Cut.f at h
 split at h
 case isFalse=>cases h
 case isTrue hb=>
  obtain rfl:=Option.some.inj h
  obtain ⟨j,hj⟩ : ∃j,j=mx a0 0:=⟨_,rfl⟩
  obtain ⟨n,hn⟩ : ∃n,n=mn j 32:=⟨_,rfl⟩
  have e1:(if a0<0 then 0 else a0)=j:=hj.symm
  have e2:(if 32<j then 32 else j)=n:=hn.symm
  have hn0:0<=n:=by rw [<-e2,<-e1];split<;>split<;>omega
  have hn32:n<=32:=by rw [<-e2];split<;>omega
  obtain ⟨m,rfl⟩ : ∃m:Nat,n=(m:Int):=⟨n.toNat,by omega⟩
  rw [<-hj,<-hn,Int.toNat_natCast]
  have HR:=z_ hr1
  have HC:=z_ hc1
  have HGS:=z_ hGS
  clear h hr1 hc1 hGS hj hn
  go_enter Tryz.func73,Tryz.ntmps73
  go_wp2_with fail
  refine (sum_any A1 c1 l1 w HR.out HC.out hb HGS.out).mono ?_
  rintro e w1 ⟨v,rfl,hR1,hB1⟩
  obtain ⟨A,c,rfl⟩:=Kd.R_slice hR1
  have hlc:=(Kd.R_reads' hR1).2.1
  have HR1:=z_ hR1
  have HB1:=z_ hB1
  clear hR1 hB1
  have hl32:(shaSum l1).length=32:=shaSum_length l1
  have hmc:(m:Int)<=(c:Int):=by omega
  have hm32:m<=32:=by omega
  go_wp2_with fail
  go_ret
  have hR2:Kd.R (Kd.int .u8) 5 w1 w.heap.size (fun k_=>w.heap.size<=k_) (.slice A m c) ((shaSum l1).take m):=Kd.R_mono (Kd.R_bound (Kd.R_take HR1.out (by omega))) (fun k hk=>hk.2.1)
  have hlm:((shaSum l1).take m).length=m:=by rw [List.length_take];omega
  have hV:=(Kd.V_at (Kd.R_V (base':=w.heap.size) hR2)).2.2
  have hV2:=Kd.V_mk (base:=w.heap.size) (e:=5) (Nat.le_refl _) hV
  rw [hlm] at hV2
  exact ⟨_,rfl,hV2,HB1.out⟩
end Go.Proofs.YtdeneoknjeegbaaGreatDoor.P
end
