/- Lemmas of this claim, part 2. -/
import Derived.Test.YtdeneoknjeegbaaGreatDoorProg
import Derived.Below
import Derived.Deep.Draws
import Derived.Deep.AppendLies
import Derived.Maps.AppendAt
import Derived.OwnWalk
import Derived.Laws.BytesArg
import Derived.Laws.MakeOwn
import Derived.Laws.OwnMore
import Derived.Deep.OwnRows
import Derived.Tactics
import Derived.Lib.ConvBytes
import Derived.Laws.Slices
import Derived.WalkKit
import Derived.KernelRfl
import Derived.RowKit3
import Derived.Deep.LoopGhost
import Derived.Deep.QuietTactic
import Derived.BigQuiet
import Derived.WideLaws
import Derived.Deep.DeepCutAuto
import Derived.Deep.CutBlock
import Derived.Deep.RegionHeld3
import Derived.Laws.Rows
import Derived.Lib.AppendStr
import Derived.ArgAppend
import Derived.Laws.IdiomCopy
import Derived.OrdersHeld
import Derived.Laws.BitsLemmas
import Derived.RowKit
import Derived.Test.YtdeneoknjeegbaaGreatDoorPartPtreeLives0
import Derived.Test.YtdeneoknjeegbaaGreatDoorPartPtreeLives1
import Derived.WalkSpells
import Derived.WalkLawsBesides
import Derived.IntWalk
import Derived.Lib.TrailingZeros
import Derived.StillTailTactics
import Derived.Handy
import Derived.BigRegion
set_option linter.unusedVariables false
set_option linter.unusedSimpArgs false
section
namespace Go.Proofs.YtdeneoknjeegbaaGreatDoor.P
open Go.RowKit YtdeneoknjeegbaaGreatDoorW.PrintWords YtdeneoknjeegbaaGreatDoorW.PrintLast YtdeneoknjeegbaaGreatDoorW.PrintMore
attribute [local go_sem] max2_int min2_int max_two min_two max_three min_three max_four min_four
def errW:Option Int->Value
 | none=>.nilIface
 | some c=>.iface 0 (.int .i64 c)
theorem errW_none:errW none = .nilIface:=rfl
theorem errW_some (c:Int):errW (some c) = .iface 0 (.int .i64 c):=rfl
theorem info5:(Tryz.prog.info? 5).map (fun i=>(i.zero,i.size,i.bytes))=some (some (.int .u8 0),1,1):=by kernel_rfl
theorem info34:(Tryz.prog.info? 34).map (fun i=>(i.zero,i.size,i.bytes))=some (some (.agg #[(.slice none 0 0),(.slice none 0 0),(.int .i64 0)]),3,56):=by kernel_rfl
def rd_L1 (xs:List (List Int)) (i:Int):(List Int):=xs.getD i.toNat ([]:List Int)
theorem at_L1 {w:World} {A:Option Addr} {n:Nat} {xs:List (List Int)} (h:Kd.C (Kd.slice 5 (Kd.int .u8)) w A n xs) (i:Int) (h0:0<=i) (h1:i<n) : ∃ad A0 c0,A=some ad/\w.cell? (ad.add i.toNat)=some (.slice A0 (rd_L1 xs i).length c0)/\(rd_L1 xs i).length<=c0/\(Kd.int .u8).C w A0 (rd_L1 xs i).length (rd_L1 xs i):=by
 obtain ⟨ad,c,e,_,hK,hc0⟩:=Kd.C_get h ([]:List Int) i h0 h1
 have hc : ∀j u,c[j]? = some u->w.cell? (ad.add (i.toNat*1+j))=some u:=hc0
 obtain ⟨A0,c0,rfl,l0,g0⟩:=hK
 exact ⟨ad,A0,c0,e,by have hq:=hc 0 _ rfl;rwa [Nat.mul_one,Nat.add_zero] at hq,l0,g0⟩
structure S34 where
 f0:(List Int)
 f1:(List Int)
 f2:Int
def z34:S34:=⟨([]:List Int),([]:List Int),(0:Int)⟩
def k34:Kd S34:=Kd.iso (Kd.pair (Kd.slice 5 (Kd.int .u8)) (Kd.pair (Kd.slice 5 (Kd.int .u8)) (Kd.int .i64))) (fun x:S34=>(x.f0,x.f1,x.f2))
theorem k34_open {w:World} {x:S34} {cs:List Value} (h:k34.K w x cs) : ∃A0 c0 A1 c1,cs = [.slice A0 x.f0.length c0,.slice A1 x.f1.length c1,.int .i64 x.f2]/\x.f0.length<=c0/\(Kd.int .u8).C w A0 x.f0.length x.f0/\x.f1.length<=c1/\(Kd.int .u8).C w A1 x.f1.length x.f1:=by
 obtain ⟨_,_,rfl,⟨A0,c0,rfl,l0,g0⟩,⟨_,_,rfl,⟨A1,c1,rfl,l1,g1⟩,rfl⟩⟩:=h
 exact ⟨A0,c0,A1,c1,rfl,l0,g0,l1,g1⟩
theorem k34_mk (w:World) (x:S34) {A0:Option Addr} {c0:Nat} (l0:x.f0.length<=c0) (g0:(Kd.int .u8).C w A0 x.f0.length x.f0) {A1:Option Addr} {c1:Nat} (l1:x.f1.length<=c1) (g1:(Kd.int .u8).C w A1 x.f1.length x.f1):k34.K w x [.slice A0 x.f0.length c0,.slice A1 x.f1.length c1,.int .i64 x.f2]:=⟨[.slice A0 x.f0.length c0],[.slice A1 x.f1.length c1,.int .i64 x.f2],rfl,⟨A0,c0,rfl,l0,g0⟩,⟨[.slice A1 x.f1.length c1],[.int .i64 x.f2],rfl,⟨A1,c1,rfl,l1,g1⟩,rfl⟩⟩
theorem k34_openF {W:World} {ok:Nat->Prop} {x:S34} {cs:List Value} (h:Kd.FK k34 W ok x cs) : ∃A0 c0 A1 c1,cs = [.slice A0 x.f0.length c0,.slice A1 x.f1.length c1,.int .i64 x.f2]/\x.f0.length<=c0/\Kd.F (Kd.int .u8) W ok A0 x.f0.length x.f0/\x.f1.length<=c1/\Kd.F (Kd.int .u8) W ok A1 x.f1.length x.f1:=by
 obtain ⟨A0,c0,A1,c1,rfl,l0,_,l1,_⟩:=k34_open (Kd.FK_now h)
 exact ⟨A0,c0,A1,c1,rfl,l0,(fun W' hW=>by obtain ⟨A0_,c0_,A1_,c1_,he,l0_,g0_,l1_,g1_⟩:=k34_open (h W' hW);injection (Option.some.inj (show some (Value.slice A0 x.f0.length c0)=some (Value.slice A0_ x.f0.length c0_) from congrArg (fun l=>l[0]?) he)) with ha_ _ _;rw [ha_];exact g0_),l1,(fun W' hW=>by obtain ⟨A0_,c0_,A1_,c1_,he,l0_,g0_,l1_,g1_⟩:=k34_open (h W' hW);injection (Option.some.inj (show some (Value.slice A1 x.f1.length c1)=some (Value.slice A1_ x.f1.length c1_) from congrArg (fun l=>l[1]?) he)) with ha_ _ _;rw [ha_];exact g1_)⟩
theorem k34_mkF (W:World) (ok:Nat->Prop) (x:S34) {A0:Option Addr} {c0:Nat} (l0:x.f0.length<=c0) (g0:Kd.F (Kd.int .u8) W ok A0 x.f0.length x.f0) {A1:Option Addr} {c1:Nat} (l1:x.f1.length<=c1) (g1:Kd.F (Kd.int .u8) W ok A1 x.f1.length x.f1):Kd.FK k34 W ok x [.slice A0 x.f0.length c0,.slice A1 x.f1.length c1,.int .i64 x.f2]:=fun W2 hW=>k34_mk W2 x l0 (g0 W2 hW) l1 (g1 W2 hW)
def rd_T34 (xs:List S34) (i:Int):S34:=xs.getD i.toNat z34
theorem at_T34 {w:World} {A:Option Addr} {n:Nat} {xs:List S34} (h:Kd.C k34 w A n xs) (i:Int) (h0:0<=i) (h1:i<n) : ∃ad A0 c0 A1 c1,A=some ad/\w.cell? (ad.add (i.toNat*3))=some (.slice A0 (rd_T34 xs i).f0.length c0)/\w.cell? ⟨(ad.add (i.toNat*3)).block,(ad.add (i.toNat*3)).off+1,none⟩=some (.slice A1 (rd_T34 xs i).f1.length c1)/\w.cell? ⟨(ad.add (i.toNat*3)).block,(ad.add (i.toNat*3)).off+2,none⟩=some (.int .i64 (rd_T34 xs i).f2)/\(rd_T34 xs i).f0.length<=c0/\(Kd.int .u8).C w A0 (rd_T34 xs i).f0.length (rd_T34 xs i).f0/\(rd_T34 xs i).f1.length<=c1/\(Kd.int .u8).C w A1 (rd_T34 xs i).f1.length (rd_T34 xs i).f1:=by
 obtain ⟨ad,c,e,_,hK,hc0⟩:=Kd.C_get h z34 i h0 h1
 have hc : ∀j u,c[j]? = some u->w.cell? (ad.add (i.toNat*3+j))=some u:=hc0
 obtain ⟨A0,c0,A1,c1,rfl,l0,g0,l1,g1⟩:=k34_open hK
 exact ⟨ad,A0,c0,A1,c1,e,hc 0 _ rfl,by rw [<-add_field _ _ 1 (by omega)];exact hc 1 _ rfl,by rw [<-add_field _ _ 2 (by omega)];exact hc 2 _ rfl,l0,g0,l1,g1⟩
structure S59 where
 f0:Bool
 f1:(List Int)
 f2:(List Int)
 f3:Int
 f4:Int
 f5:(List Int)
 f6:Int
 f7:Int
 f8:Int
 f9:(List Int)
def z59:S59:=⟨false,([]:List Int),([]:List Int),(0:Int),(0:Int),([]:List Int),(0:Int),(0:Int),(0:Int),([]:List Int)⟩
def k59:Kd S59:=Kd.iso (Kd.pair Kd.bool (Kd.pair (Kd.slice 5 (Kd.int .u8)) (Kd.pair (Kd.slice 5 (Kd.int .u8)) (Kd.pair (Kd.int .i64) (Kd.pair (Kd.int .i64) (Kd.pair (Kd.slice 5 (Kd.int .u8)) (Kd.pair (Kd.int .i64) (Kd.pair (Kd.int .i64) (Kd.pair (Kd.int .i64) (Kd.slice 5 (Kd.int .u8))))))))))) (fun x:S59=>(x.f0,x.f1,x.f2,x.f3,x.f4,x.f5,x.f6,x.f7,x.f8,x.f9))
structure S40 where
 f0:(List Int)
 f1:(List Int)
 f2:Int
def z40:S40:=⟨([]:List Int),([]:List Int),(0:Int)⟩
def k40:Kd S40:=Kd.iso (Kd.pair (Kd.slice 5 (Kd.int .u8)) (Kd.pair (Kd.slice 5 (Kd.int .u8)) (Kd.int .i64))) (fun x:S40=>(x.f0,x.f1,x.f2))
theorem k40_open {w:World} {x:S40} {cs:List Value} (h:k40.K w x cs) : ∃A0 c0 A1 c1,cs = [.slice A0 x.f0.length c0,.slice A1 x.f1.length c1,.int .i64 x.f2]/\x.f0.length<=c0/\(Kd.int .u8).C w A0 x.f0.length x.f0/\x.f1.length<=c1/\(Kd.int .u8).C w A1 x.f1.length x.f1:=by
 obtain ⟨_,_,rfl,⟨A0,c0,rfl,l0,g0⟩,⟨_,_,rfl,⟨A1,c1,rfl,l1,g1⟩,rfl⟩⟩:=h
 exact ⟨A0,c0,A1,c1,rfl,l0,g0,l1,g1⟩
theorem k40_mk (w:World) (x:S40) {A0:Option Addr} {c0:Nat} (l0:x.f0.length<=c0) (g0:(Kd.int .u8).C w A0 x.f0.length x.f0) {A1:Option Addr} {c1:Nat} (l1:x.f1.length<=c1) (g1:(Kd.int .u8).C w A1 x.f1.length x.f1):k40.K w x [.slice A0 x.f0.length c0,.slice A1 x.f1.length c1,.int .i64 x.f2]:=⟨[.slice A0 x.f0.length c0],[.slice A1 x.f1.length c1,.int .i64 x.f2],rfl,⟨A0,c0,rfl,l0,g0⟩,⟨[.slice A1 x.f1.length c1],[.int .i64 x.f2],rfl,⟨A1,c1,rfl,l1,g1⟩,rfl⟩⟩
theorem k40_mkF (W:World) (ok:Nat->Prop) (x:S40) {A0:Option Addr} {c0:Nat} (l0:x.f0.length<=c0) (g0:Kd.F (Kd.int .u8) W ok A0 x.f0.length x.f0) {A1:Option Addr} {c1:Nat} (l1:x.f1.length<=c1) (g1:Kd.F (Kd.int .u8) W ok A1 x.f1.length x.f1):Kd.FK k40 W ok x [.slice A0 x.f0.length c0,.slice A1 x.f1.length c1,.int .i64 x.f2]:=fun W2 hW=>k40_mk W2 x l0 (g0 W2 hW) l1 (g1 W2 hW)
def rd_T40 (xs:List S40) (i:Int):S40:=xs.getD i.toNat z40
theorem at_T40 {w:World} {A:Option Addr} {n:Nat} {xs:List S40} (h:Kd.C k40 w A n xs) (i:Int) (h0:0<=i) (h1:i<n) : ∃ad A0 c0 A1 c1,A=some ad/\w.cell? (ad.add (i.toNat*3))=some (.slice A0 (rd_T40 xs i).f0.length c0)/\w.cell? ⟨(ad.add (i.toNat*3)).block,(ad.add (i.toNat*3)).off+1,none⟩=some (.slice A1 (rd_T40 xs i).f1.length c1)/\w.cell? ⟨(ad.add (i.toNat*3)).block,(ad.add (i.toNat*3)).off+2,none⟩=some (.int .i64 (rd_T40 xs i).f2)/\(rd_T40 xs i).f0.length<=c0/\(Kd.int .u8).C w A0 (rd_T40 xs i).f0.length (rd_T40 xs i).f0/\(rd_T40 xs i).f1.length<=c1/\(Kd.int .u8).C w A1 (rd_T40 xs i).f1.length (rd_T40 xs i).f1:=by
 obtain ⟨ad,c,e,_,hK,hc0⟩:=Kd.C_get h z40 i h0 h1
 have hc : ∀j u,c[j]? = some u->w.cell? (ad.add (i.toNat*3+j))=some u:=hc0
 obtain ⟨A0,c0,A1,c1,rfl,l0,g0,l1,g1⟩:=k40_open hK
 exact ⟨ad,A0,c0,A1,c1,e,hc 0 _ rfl,by rw [<-add_field _ _ 1 (by omega)];exact hc 1 _ rfl,by rw [<-add_field _ _ 2 (by omega)];exact hc 2 _ rfl,l0,g0,l1,g1⟩
end Go.Proofs.YtdeneoknjeegbaaGreatDoor.P
end
section
namespace Go.Proofs.YtdeneoknjeegbaaGreatDoor.P
open Go.RowKit YtdeneoknjeegbaaGreatDoorW.PrintWords YtdeneoknjeegbaaGreatDoorW.PrintLast YtdeneoknjeegbaaGreatDoorW.PrintMore
theorem still1 {P:Program} {f:FuncId} {args:Array Value} {w:World} {n:Nat} {v:Value} (h:Calls P f args (w.drewN n) fun e w'=>e = .returned v/\w.drewN n=w'):
 Calls P f args (w.drewN n) fun e w''=>e = .returned v/\∃m,w''=w.drewN m:=h.mono fun _ _ ⟨he,hd⟩=>⟨he,n,by rw [<-hd]⟩
theorem drawn1_quiet {P:Program} {f:FuncId} {args:Array Value} {w:World} {n:Nat} {v:Value} (h:Calls P f args (w.drewN n) fun e w'=>e = .returned v/\Drawn0 (w.drewN n) w'):
 Calls P f args (w.drewN n) fun e w''=>e = .returned v/\∃m,w''=w.drewN m:=h.mono fun _ _ ⟨he,hd⟩=>by
 obtain ⟨m,hm⟩:=hd.out
 exact ⟨he,n+m,by rw [hm,World.drewN_drewN]⟩
end Go.Proofs.YtdeneoknjeegbaaGreatDoor.P
end
section
namespace Go.Proofs.YtdeneoknjeegbaaGreatDoor.P
def gn (l:List Int) (k:Nat):Int:=l.getD k 0
def swapL (l:List Int) (i j:Nat):List Int:=(l.set i (gn l j)).set j (gn l i)
theorem gn_lt {l:List Int} {k:Nat} (h:k<l.length):gn l k=l[k]:=by
 unfold gn
 rw [List.getD_eq_getElem?_getD,List.getElem?_eq_getElem h]
 rfl
theorem gn_swap {l:List Int} {i j:Nat} (hi:i<l.length) (hj:j<l.length) (k:Nat):gn (swapL l i j) k=if k=j then gn l i else if k=i then gn l j else gn l k:=by
 unfold swapL
 by_cases h1:k=j
 ·subst h1
  rw [if_pos rfl,gn_lt (by simpa using hj),List.getElem_set_self]
 ·rw [if_neg h1]
  by_cases h2:k=i
  ·subst h2
   rw [if_pos rfl,gn_lt (by simpa using hi),List.getElem_set_ne (fun h=>h1 h.symm),List.getElem_set_self]
  ·rw [if_neg h2]
   unfold gn
   rw [List.getD_eq_getElem?_getD,List.getElem?_set_ne (fun h=>h1 h.symm),List.getElem?_set_ne (fun h=>h2 h.symm),List.getD_eq_getElem?_getD]
theorem swapL_perm {l:List Int} {i j:Nat} (hi:i<l.length) (hj:j<l.length):(swapL l i j).Perm l:=by
 unfold swapL
 rw [gn_lt hi,gn_lt hj]
 exact List.set_set_perm hi hj
def HeapN (n:Nat) (l:List Int):Prop:=∀k,0<k->k<n->gn l ((k-1)/2)<=gn l k
theorem HeapN.min {n:Nat} {l:List Int} (h:HeapN n l) : ∀k,k<n->gn l 0<=gn l k:=by
 intro k
 induction k using Nat.strongRecOn with
 | _ k ih=>
   intro hk
   by_cases h0:k=0
   ·subst h0
    exact Int.le_refl _
   ·exact Int.le_trans (ih ((k-1)/2) (by omega) (by omega)) (h k (by omega) hk)
def HeapDn (n i:Nat) (l:List Int):Prop:=(∀k,0<k->k<n->(k-1)/2≠i->gn l ((k-1)/2)<=gn l k)/\∀k,0<k->k<n->(k-1)/2=i->0<i->gn l ((i-1)/2)<=gn l k
theorem HeapDn.stop {n i:Nat} {l:List Int} (h:HeapDn n i l) (hs : ∀k,0<k->k<n->(k-1)/2=i->gn l i<=gn l k):HeapN n l:=by
 intro k h0 hk
 by_cases hi:(k-1)/2=i
 ·rw [hi]
  exact hs k h0 hk hi
 ·exact h.1 k h0 hk hi
theorem HeapDn.step {n i j:Nat} {l:List Int} (h:HeapDn n i l) (hj:0<j) (hn:j<n) (hl:n<=l.length) (hp:(j-1)/2=i) (hs:gn l j<gn l i) (hm : ∀k,0<k->k<n->(k-1)/2=i->gn l j<=gn l k):HeapDn n j (swapL l i j):=by
 have hg:=fun k=>gn_swap (l:=l) (i:=i) (j:=j) (by omega) (by omega) k
 refine ⟨fun k h0 hk hki=>?_,fun k h0 hk hki h0i=>?_⟩
 ·rw [hg,hg]
  have h1:=h.1 k h0 hk
  have h2:=h.2 j hj hn hp
  by_cases hkj:k=j
  ·subst hkj
   rw [if_neg (by omega),if_pos hp,if_pos rfl]
   omega
  ·rw [if_neg hki,if_neg hkj]
   by_cases hpi:(k-1)/2=i
   ·rw [if_pos hpi,if_neg (by omega)]
    exact hm k h0 hk hpi
   ·rw [if_neg hpi]
    by_cases hk2:k=i
    ·rw [if_pos hk2,hk2]
     exact h2 (by omega)
    ·rw [if_neg hk2]
     exact h1 hpi
 ·rw [hg,hg,hp]
  rw [if_neg (by omega),if_pos rfl,if_neg (by omega),if_neg (by omega)]
  have h1:=h.1 k h0 hk (by omega)
  rw [hki] at h1
  exact h1
theorem HeapN.swap_last {l:List Int} {n:Nat} (h:HeapN l.length l) (hn:l.length=n+1):HeapDn n 0 (swapL l 0 n):=by
 have hg:=fun k=>gn_swap (l:=l) (i:=0) (j:=n) (by omega) (by omega) k
 refine ⟨fun k h0 hk hi=>?_,fun k h0 hk hi h=>absurd h (by omega)⟩
 rw [hg,hg,if_neg (by omega),if_neg hi,if_neg (by omega),if_neg (by omega)]
 exact h k h0 (by omega)
theorem gn_take {l:List Int} {n k:Nat} (h:k<n):gn (l.take n) k=gn l k:=by
 unfold gn
 rw [List.getD_eq_getElem?_getD,List.getElem?_take,if_pos h,List.getD_eq_getElem?_getD]
theorem HeapN.take {l:List Int} {n:Nat} (h:HeapN n l):HeapN n (l.take n):=by
 intro k h0 hk
 rw [gn_take (by omega),gn_take hk]
 exact h k h0 hk
end Go.Proofs.YtdeneoknjeegbaaGreatDoor.P
end
section
namespace Go.Proofs.YtdeneoknjeegbaaGreatDoor.P
open Go.RowKit YtdeneoknjeegbaaGreatDoorW.PrintWords YtdeneoknjeegbaaGreatDoorW.PrintLast YtdeneoknjeegbaaGreatDoorW.PrintMore
abbrev Nd:=S59
abbrev kNd:Kd Nd:=k59
abbrev Places:=List (Bool×Nd)
def ABlk (w:World) (p:Nat) (size room:Int) (vc vf:Value):Prop:=w.heap[p]? = some (.cells #[.int .i64 size,.int .i64 room,vc,vf] 53 (0,0))
theorem ABlk.below {w w1:World} {p:Nat} {size room:Int} {vc vf:Value} (h:ABlk w p size room vc vf) (hb:Below w.heap.size w w1):ABlk w1 p size room vc vf:=blk_below h hb
theorem ABlk.lt {w:World} {p:Nat} {size room:Int} {vc vf:Value} (h:ABlk w p size room vc vf):p<w.heap.size:=blk_lt h
theorem ABlk.cells {w:World} {p:Nat} {size room:Int} {vc vf:Value} (h:ABlk w p size room vc vf):w.cell? ⟨p,0,none⟩=some (.int .i64 size)/\w.cell? ⟨p,1,none⟩=some (.int .i64 room)/\w.cell? ⟨p,2,none⟩=some vc/\w.cell? ⟨p,3,none⟩=some vf:=
 ⟨blk_cell h 0,blk_cell h 1,blk_cell h 2,blk_cell h 3⟩
theorem none_calls {w:World} {p:Nat} {size room:Int} {vc vf:Value} (h:ABlk w p size room vc vf) (hs:size≠0):
 Calls Tryz.prog 38 #[.pointer (some ⟨p,0,none⟩)] w fun e w'=>e = .returned (.bool false)/\w=w':=by
 obtain ⟨c0,c1,c2,c3⟩:=h.cells
 have hs0:(size==0)=false:=by simpa using hs
 go_enter Tryz.func38,Tryz.ntmps38
 go_wp2_with fail
 go_ret
 exact ⟨rfl,rfl⟩
theorem len_calls (A:Option Addr) (n c:Nat) (w:World):
 Calls Tryz.prog 39 #[.slice A n c] w fun e w'=>e = .returned (.int .i64 (n:Int))/\w=w':=by
 go_enter Tryz.func39,Tryz.ntmps39
 go_wp2_with fail
 go_ret
 exact ⟨rfl,rfl⟩
theorem used_calls {w:World} {p:Nat} {size room:Int} {A A':Option Addr} {n n' c c':Nat} (h:ABlk w p size room (.slice A n c) (.slice A' n' c')) (hs:size≠0) (hn:(n:Int)<=9223372036854775807) (hn':(n':Int)<=9223372036854775807):
 Calls Tryz.prog 14 #[.pointer (some ⟨p,0,none⟩)] w fun e w'=>e = .returned (.int .i64 ((n:Int)-(n':Int)))/\Drawn0 w w':=by
 have HBk:=z_ h
 have HS:=z_ hs
 clear h hs
 go_enter Tryz.func14,Tryz.ntmps14
 go_wp2_with fail
 refine (none_calls HBk.out HS.out).mono ?_
 rintro e w' ⟨rfl,rfl⟩
 obtain ⟨c0,c1,c2,c3⟩:=HBk.out.cells
 have ws:IntKind.i64.wrap ((n:Int)-(n':Int))=(n:Int)-(n':Int):=IntWalk.i64_in _ ⟨by omega,by omega⟩
 go_wp2_with fail
 go_quiet ((go_at_call 39;(first|with_reducible exact still0 (len_calls A' n' c' _)|with_reducible exact still2 (len_calls A' n' c' _)|with_reducible exact still1 (len_calls A' n' c' _))))
 go_wp2_with fail
 go_ret
 exact ⟨rfl,⟨_,rfl⟩⟩
theorem room_calls {w:World} {p:Nat} {size room:Int} {A A':Option Addr} {n n' c c':Nat} (h:ABlk w p size room (.slice A n c) (.slice A' n' c')) (hs:size≠0) (hn:(n:Int)<=4294967296) (hn':(n':Int)<=4294967296) (hr0:0<=room) (hr1:room<=4294967296):
 Calls Tryz.prog 25 #[.pointer (some ⟨p,0,none⟩)] w fun e w'=>e = .returned (.int .i64 (room-((n:Int)-(n':Int))))/\Drawn0 w w':=by
 have HBk:=z_ h
 have HS:=z_ hs
 obtain ⟨u,hu⟩ : ∃u,u=(n:Int)-(n':Int):=⟨_,rfl⟩
 rw [<-hu]
 clear h hs
 go_enter Tryz.func25,Tryz.ntmps25
 go_wp2_with fail
 refine (none_calls HBk.out HS.out).mono ?_
 rintro e w' ⟨rfl,rfl⟩
 obtain ⟨c0,c1,c2,c3⟩:=HBk.out.cells
 have ws:IntKind.i64.wrap (room-u)=room-u:=IntWalk.i64_in _ ⟨by omega,by omega⟩
 have HU:=z_ hu
 have HUC : ∀m,Calls Tryz.prog 14 #[.pointer (some ⟨p,0,none⟩)] (w.drewN m) fun e w'=>e = .returned (.int .i64 u)/\Drawn0 (w.drewN m) w':=fun m=>by
  rw [HU.out]
  exact used_calls (w:=w.drewN m) HBk.out HS.out (by omega) (by omega)
 have HUC:=z_ HUC
 clear hu
 go_wp2_with fail
 go_quiet ((go_at_call 14;(first|with_reducible exact drawn2_quiet (HUC.out _)|with_reducible exact drawn1_quiet (HUC.out _)|exact drawn0_quiet (HUC.out 0))))
 go_wp2_with fail
 go_ret
 exact ⟨rfl,⟨_,rfl⟩⟩
theorem size_calls {w:World} {p:Nat} {size room:Int} {vc vf:Value} (h:ABlk w p size room vc vf) (hs:size≠0):
 Calls Tryz.prog 18 #[.pointer (some ⟨p,0,none⟩)] w fun e w'=>e = .returned (.int .i64 size)/\w=w':=by
 have HBk:=z_ h
 have HS:=z_ hs
 clear h hs
 go_enter Tryz.func18,Tryz.ntmps18
 go_wp2_with fail
 refine (none_calls HBk.out HS.out).mono ?_
 rintro e w' ⟨rfl,rfl⟩
 obtain ⟨c0,c1,c2,c3⟩:=HBk.out.cells
 go_wp2_with fail
 go_ret
 exact ⟨rfl,rfl⟩
theorem at_neg {w:World} {p:Nat} {size room:Int} {vc vf:Value} (h:ABlk w p size room vc vf) (hs:size≠0) (i:Int) (hi:i<0):
 Calls Tryz.prog 48 #[.pointer (some ⟨p,0,none⟩),.int .i64 i] w fun e w'=>e = .returned (.pointer none)/\w=w':=by
 have HBk:=z_ h
 have HS:=z_ hs
 have hk4:decide (i<0)=true:=decide_eq_true hi
 clear h hs hi
 go_enter Tryz.func48,Tryz.ntmps48
 go_wp2_with fail
 refine (none_calls HBk.out HS.out).mono ?_
 rintro e w' ⟨rfl,rfl⟩
 obtain ⟨c0,c1,c2,c3⟩:=HBk.out.cells
 go_wp2_with fail
 go_ret
 exact ⟨rfl,rfl⟩
theorem at_past {w:World} {p:Nat} {size room:Int} {A:Option Addr} {n c:Nat} {vf:Value} (h:ABlk w p size room (.slice A n c) vf) (hs:size≠0) (i:Int) (h0:0<=i) (hi:(n:Int)<=i):
 Calls Tryz.prog 48 #[.pointer (some ⟨p,0,none⟩),.int .i64 i] w fun e w'=>e = .returned (.pointer none)/\w=w':=by
 have HBk:=z_ h
 have HS:=z_ hs
 have hk4:decide (i<0)=false:=decide_eq_false (by omega)
 have hk5:decide ((n:Int)<=i)=true:=decide_eq_true hi
 clear h hs
 go_enter Tryz.func48,Tryz.ntmps48
 go_wp2_with fail
 refine (none_calls HBk.out HS.out).mono ?_
 rintro e w' ⟨rfl,rfl⟩
 obtain ⟨c0,c1,c2,c3⟩:=HBk.out.cells
 go_wp2_with fail
 go_ret
 exact ⟨rfl,rfl⟩
def slices_Clone_byte_byte.f (l0:List Int):Option (List Int):=if l0.length<140737488355328 then some l0 else none
set_option maxHeartbeats 1000000 in
set_option maxRecDepth 100000 in
theorem slices_Clone_byte_byte.calls (A0:Option Addr) (c0:Nat) (l0:List Int) (r:List Int) (w:World) (hr0:Kd.C (Kd.int .u8) w A0 l0.length l0) (hc0:l0.length<=c0) (h:slices_Clone_byte_byte.f l0=some r):
 Calls Tryz.prog 49 #[.slice A0 l0.length c0] w fun e w'=>∃v0_:Value,e = .returned (v0_)/\Kd.R (Kd.int .u8) 5 w' w.heap.size (fun _=>True) v0_ r/\Below w.heap.size w w':=by
 unfold slices_Clone_byte_byte.f at h
 split at h
 case isFalse=>cases h
 case isTrue hb=>
  obtain rfl:=Option.some.inj h
  have HR:=z_ hr0
  clear h
  cases A0 with
  | none=>
    have h0:l0.length=0:=by
     by_cases h:0<l0.length
     ·obtain ⟨ad,e,_⟩:=(Kd.reads_of_C (d:=(0:Int)) hr0).2.2 h
      cases e
     ·omega
    obtain rfl:=List.eq_nil_of_length_eq_zero h0
    clear hr0
    have hnil : ∀W:World,(binOp .eql 23 (.slice none 0 c0) (.slice none 0 0)).run Tryz.prog W = .ok (.bool true) W:=fun _=>by kernel_rfl
    go_enter Tryz.func49,Tryz.ntmps49
    go_wp2_with fail
    go_ret
    exact ⟨_,rfl,Kd.R_nil _ _ _ _ _,Below.refl _ _⟩
  | some ad=>
    clear hr0
    have hnil : ∀W:World,(binOp .eql 23 (.slice (some ad) l0.length c0) (.slice none 0 0)).run Tryz.prog W = .ok (.bool false) W:=fun _=>by kernel_rfl
    go_enter Tryz.func49,Tryz.ntmps49
    go_wp2_with (first|((with_reducible refine gate_dst (N:=5) rfl ?_);refine Kd.R_lit (Kd.int .u8) _ 5 ?hg (N:=5) ?hd (xs:=([]:List Int)) (inner:=[]) (ok:=fun _=>True) (okp:=fun _=>True) ?hr ?hp (fun _ hk=>hk) trivial (Below.refl _ _) (Nat.le_refl _) (by simp) ?_;(case hd=>rfl);(case hg=>rfl);(case hr=>first|(go_simp;done)|(go_simp;rfl));(case hp=>exact (Reps.none _ _));intro v1 w1 ho1 hb1 hg1 hn1;have HO1:=z_ ho1;have HB1:=z_ hb1;clear ho1 hb1 hg1 hn1)|((with_reducible refine gate_builtin (b:=.append) (xs:=#[.tmp 5,.tmp 6]) rfl ?_);at_builtin;refine Kd.R_append_rows (Kd.int .u8) (w0:=w) w.heap.size rfl (.tmp 5) (.tmp 6) 23 5 (.int .u8 0) 1 rfl Tryz.underlying23 info5 rfl (by decide) (by omega) v1 [] l0 _ _ _ (fun _=>True) (fun _=>False) rfl rfl ?aO ?aR (fun _ _ h=>h) (fun _ h=>h.elim) ?aF ?aB ?aS ?aL ?_;(case aR=>exact Kd.C_below HR.out HB1.out);(case aB=>exact HB1.out);(case aF=>exact (fun _ _=>trivial));(case aO=>exact HO1.out);(case aS=>exact HB1.out.size);(case aL=>simp;omega);intro v2 w2 ho hb2 hg hat;have HO2:=z_ ho;have HB2:=z_ hb2;clear ho hb2 hg hat))
    go_ret
    exact ⟨_,rfl,HO2.out,HB2.out⟩
end Go.Proofs.YtdeneoknjeegbaaGreatDoor.P
end
section
namespace Go.Proofs.YtdeneoknjeegbaaGreatDoor.P
open Go.RowKit YtdeneoknjeegbaaGreatDoorW.PrintWords YtdeneoknjeegbaaGreatDoorW.PrintLast YtdeneoknjeegbaaGreatDoorW.PrintMore
attribute [local go_sem] max2_int min2_int max_two min_two max_three min_three max_four min_four
def bits_RotateLeft32.f (a0:Int) (a1:Int):Option (Int):=if 0<=(Go.bits .and .u64 (IntKind.u64.wrap (a1)) 31) then (if 0<=(IntKind.u64.wrap (32-(Go.bits .and .u64 (IntKind.u64.wrap (a1)) 31))) then (some (Go.bits .or .u32 (shl .u32 a0 (Go.bits .and .u64 (IntKind.u64.wrap (a1)) 31)) (shr .u32 a0 (IntKind.u64.wrap (32-(Go.bits .and .u64 (IntKind.u64.wrap (a1)) 31)))))) else (none)) else (none)
set_option maxHeartbeats 8000000 in
set_option maxRecDepth 100000 in
theorem bits_RotateLeft32.calls (a0:Int) (a1:Int) (r:Int) (w:World) (h:bits_RotateLeft32.f a0 a1=some r):
 Calls Tryz.prog 98 #[.int .u32 a0,.int .i64 a1] w fun e w'=>e = .returned (.int .u32 r)/\Drawn0 w w':=by
 have H:(if 0<=(Go.bits .and .u64 (IntKind.u64.wrap (a1)) 31) then (if 0<=(IntKind.u64.wrap (32-(Go.bits .and .u64 (IntKind.u64.wrap (a1)) 31))) then (some (Go.bits .or .u32 (shl .u32 a0 (Go.bits .and .u64 (IntKind.u64.wrap (a1)) 31)) (shr .u32 a0 (IntKind.u64.wrap (32-(Go.bits .and .u64 (IntKind.u64.wrap (a1)) 31)))))) else (none)) else (none))=some r:=h
 clear h
 obtain ⟨ji3,hji3⟩ : ∃j_:Int,(Go.bits .and .u64 (IntKind.u64.wrap (a1)) 31)=j_:=⟨_,rfl⟩
 replace H:(if 0<=(ji3) then (if 0<=(IntKind.u64.wrap (32-(ji3))) then (some (Go.bits .or .u32 (shl .u32 a0 (ji3)) (shr .u32 a0 (IntKind.u64.wrap (32-(ji3)))))) else (none)) else (none))=some r:=by first|(rw [hji3] at H;exact H)|(simp only [hji3] at H ⊢;exact H)
 by_cases c4:0<=(ji3)
 ·rw [if_pos c4] at H
  have c4b0:=eq_true c4
  have c4b1:decide (0<=(ji3))=true:=decide_eq_true c4
  clear c4
  obtain ⟨ji5,hji5⟩ : ∃j_:Int,(shl .u32 a0 (ji3))=j_:=⟨_,rfl⟩
  replace H:(if 0<=(IntKind.u64.wrap (32-(ji3))) then (some (Go.bits .or .u32 (ji5) (shr .u32 a0 (IntKind.u64.wrap (32-(ji3)))))) else (none))=some r:=by first|(rw [hji5] at H;exact H)|(simp only [hji5] at H ⊢;exact H)
  have hji5_:(IntKind.u32.wrap (a0*2^min (ji3).toNat 32))=ji5:=hji5
  have hji5z:(ji3)<=32->(IntKind.u32.wrap (a0*2^(ji3).toNat))=ji5:=shl_small hji5
  obtain ⟨ji6,hji6⟩ : ∃j_:Int,(IntKind.u64.wrap (32-(ji3)))=j_:=⟨_,rfl⟩
  replace H:(if 0<=(ji6) then (some (Go.bits .or .u32 (ji5) (shr .u32 a0 (ji6)))) else (none))=some r:=by first|(rw [hji6] at H;exact H)|(simp only [hji6] at H ⊢;exact H)
  by_cases c7:0<=(ji6)
  ·rw [if_pos c7] at H
   have c7b0:=eq_true c7
   have c7b1:decide (0<=(ji6))=true:=decide_eq_true c7
   clear c7
   obtain ⟨ji8,hji8⟩ : ∃j_:Int,(shr .u32 a0 (ji6))=j_:=⟨_,rfl⟩
   replace H:(some (Go.bits .or .u32 (ji5) (ji8)))=some r:=by first|(rw [hji8] at H;exact H)|(simp only [hji8] at H ⊢;exact H)
   have hji8_:(a0/2^min (ji6).toNat 32)=ji8:=hji8
   have hji8z:(ji6)<=32->(a0/2^(ji6).toNat)=ji8:=shr_small hji8
   obtain rfl:=Option.some.inj H
   go_enter Tryz.func98,Tryz.ntmps98
   go_wp2
   go_ret
   exact ⟨by first|rfl|(simp;done)|(simp only [<-hji3,<-hji5,<-hji6,<-hji8]<;>(first|rfl|simp))|(simp [*];done),by repeat (first|exact Drawn0.refl _|apply Drawn0.step)⟩
  ·rw [if_neg c7] at H
   exact absurd H (by simp)
 ·rw [if_neg c4] at H
  exact absurd H (by simp)
def sha_gamma.f (a0:Int) (a1:Int) (a2:Int) (a3:Int):Option (Int):=(bits_RotateLeft32.f a0 (wrap64 (32-a1))).bind fun t130=>((bits_RotateLeft32.f a0 (wrap64 (32-a2))).bind fun t131=>(if 0<=a3 then (some (Go.bits .xor .u32 (Go.bits .xor .u32 t130 t131) (shr .u32 a0 a3))) else (none)))
set_option maxHeartbeats 8000000 in
set_option maxRecDepth 100000 in
theorem sha_gamma.calls (a0:Int) (a1:Int) (a2:Int) (a3:Int) (r:Int) (w:World) (h:sha_gamma.f a0 a1 a2 a3=some r):
 Calls Tryz.prog 97 #[.int .u32 a0,.int .i64 a1,.int .i64 a2,.int .i64 a3] w fun e w'=>e = .returned (.int .u32 r)/\Drawn0 w w':=by
 have H:((bits_RotateLeft32.f a0 (wrap64 (32-a1))).bind fun t130=>((bits_RotateLeft32.f a0 (wrap64 (32-a2))).bind fun t131=>(if 0<=a3 then (some (Go.bits .xor .u32 (Go.bits .xor .u32 t130 t131) (shr .u32 a0 a3))) else (none))))=some r:=h
 clear h
 replace H:=Option.bind_eq_some_iff.mp H
 obtain ⟨t130,A50,H⟩:=H
 replace H:((bits_RotateLeft32.f a0 (wrap64 (32-a2))).bind fun t131=>(if 0<=a3 then (some (Go.bits .xor .u32 (Go.bits .xor .u32 t130 t131) (shr .u32 a0 a3))) else (none)))=some r:=H
 have A5:=z_ A50
 clear A50
 replace H:=Option.bind_eq_some_iff.mp H
 obtain ⟨t131,A60,H⟩:=H
 replace H:(if 0<=a3 then (some (Go.bits .xor .u32 (Go.bits .xor .u32 t130 t131) (shr .u32 a0 a3))) else (none))=some r:=H
 have A6:=z_ A60
 clear A60
 by_cases c7:0<=a3
 ·rw [if_pos c7] at H
  have c7b0:=eq_true c7
  have c7b1:decide (0<=a3)=true:=decide_eq_true c7
  clear c7
  obtain ⟨ji8,hji8⟩ : ∃j_:Int,(shr .u32 a0 a3)=j_:=⟨_,rfl⟩
  replace H:(some (Go.bits .xor .u32 (Go.bits .xor .u32 t130 t131) (ji8)))=some r:=by first|(rw [hji8] at H;exact H)|(simp only [hji8] at H ⊢;exact H)
  (try rw [hji8] at A5)
  (try rw [hji8] at A6)
  have hji8_:(a0/2^min a3.toNat 32)=ji8:=hji8
  have hji8z:a3<=32->(a0/2^a3.toNat)=ji8:=shr_small hji8
  obtain rfl:=Option.some.inj H
  go_enter Tryz.func97,Tryz.ntmps97
  go_wp2_with (first|(go_at_call 98;(with_reducible refine (bits_RotateLeft32.calls a0 (wrap64 (32-a1)) t130 _ A5.out).mono ?_);rintro e w' ⟨rfl,⟨nd,rfl⟩⟩;(try first|exact ⟨rfl,_,World.drewN_drewN _ _ _⟩|exact ⟨rfl,_,Eq.trans (World.drewN_drewN _ _ _) (congrArg (World.drewN _) (Nat.add_assoc _ _ _))⟩))|(go_at_call 98;(with_reducible refine (bits_RotateLeft32.calls a0 (wrap64 (32-a2)) t131 _ A6.out).mono ?_);rintro e w' ⟨rfl,⟨nd,rfl⟩⟩;(try first|exact ⟨rfl,_,World.drewN_drewN _ _ _⟩|exact ⟨rfl,_,Eq.trans (World.drewN_drewN _ _ _) (congrArg (World.drewN _) (Nat.add_assoc _ _ _))⟩)))
  repeat (go_quiet (first|(go_at_call 98;(with_reducible refine (bits_RotateLeft32.calls a0 (wrap64 (32-a1)) t130 _ A5.out).mono ?_);rintro e w' ⟨rfl,⟨nd,rfl⟩⟩;(try first|exact ⟨rfl,_,World.drewN_drewN _ _ _⟩|exact ⟨rfl,_,Eq.trans (World.drewN_drewN _ _ _) (congrArg (World.drewN _) (Nat.add_assoc _ _ _))⟩))|(go_at_call 98;(with_reducible refine (bits_RotateLeft32.calls a0 (wrap64 (32-a2)) t131 _ A6.out).mono ?_);rintro e w' ⟨rfl,⟨nd,rfl⟩⟩;(try first|exact ⟨rfl,_,World.drewN_drewN _ _ _⟩|exact ⟨rfl,_,Eq.trans (World.drewN_drewN _ _ _) (congrArg (World.drewN _) (Nat.add_assoc _ _ _))⟩)));try go_wp2_with (first|(go_at_call 98;(with_reducible refine (bits_RotateLeft32.calls a0 (wrap64 (32-a1)) t130 _ A5.out).mono ?_);rintro e w' ⟨rfl,⟨nd,rfl⟩⟩;(try first|exact ⟨rfl,_,World.drewN_drewN _ _ _⟩|exact ⟨rfl,_,Eq.trans (World.drewN_drewN _ _ _) (congrArg (World.drewN _) (Nat.add_assoc _ _ _))⟩))|(go_at_call 98;(with_reducible refine (bits_RotateLeft32.calls a0 (wrap64 (32-a2)) t131 _ A6.out).mono ?_);rintro e w' ⟨rfl,⟨nd,rfl⟩⟩;(try first|exact ⟨rfl,_,World.drewN_drewN _ _ _⟩|exact ⟨rfl,_,Eq.trans (World.drewN_drewN _ _ _) (congrArg (World.drewN _) (Nat.add_assoc _ _ _))⟩))))
  go_ret
  exact ⟨by first|rfl|(simp;done)|(simp only [<-hji8]<;>(first|rfl|simp))|(simp [*];done),by repeat (first|exact Drawn0.refl _|apply Drawn0.step)⟩
 ·rw [if_neg c7] at H
  exact absurd H (by simp)
def sha_sigma.f (a0:Int) (a1:Int) (a2:Int) (a3:Int):Option (Int):=(bits_RotateLeft32.f a0 (wrap64 (32-a1))).bind fun t132=>((bits_RotateLeft32.f a0 (wrap64 (32-a2))).bind fun t133=>((bits_RotateLeft32.f a0 (wrap64 (32-a3))).bind fun t134=>(some (Go.bits .xor .u32 (Go.bits .xor .u32 t132 t133) t134))))
set_option maxHeartbeats 8000000 in
set_option maxRecDepth 100000 in
theorem sha_sigma.calls (a0:Int) (a1:Int) (a2:Int) (a3:Int) (r:Int) (w:World) (h:sha_sigma.f a0 a1 a2 a3=some r):
 Calls Tryz.prog 96 #[.int .u32 a0,.int .i64 a1,.int .i64 a2,.int .i64 a3] w fun e w'=>e = .returned (.int .u32 r)/\Drawn0 w w':=by
 have H:((bits_RotateLeft32.f a0 (wrap64 (32-a1))).bind fun t132=>((bits_RotateLeft32.f a0 (wrap64 (32-a2))).bind fun t133=>((bits_RotateLeft32.f a0 (wrap64 (32-a3))).bind fun t134=>(some (Go.bits .xor .u32 (Go.bits .xor .u32 t132 t133) t134)))))=some r:=h
 clear h
 replace H:=Option.bind_eq_some_iff.mp H
 obtain ⟨t132,A50,H⟩:=H
 replace H:((bits_RotateLeft32.f a0 (wrap64 (32-a2))).bind fun t133=>((bits_RotateLeft32.f a0 (wrap64 (32-a3))).bind fun t134=>(some (Go.bits .xor .u32 (Go.bits .xor .u32 t132 t133) t134))))=some r:=H
 have A5:=z_ A50
 clear A50
 replace H:=Option.bind_eq_some_iff.mp H
 obtain ⟨t133,A60,H⟩:=H
 replace H:((bits_RotateLeft32.f a0 (wrap64 (32-a3))).bind fun t134=>(some (Go.bits .xor .u32 (Go.bits .xor .u32 t132 t133) t134)))=some r:=H
 have A6:=z_ A60
 clear A60
 replace H:=Option.bind_eq_some_iff.mp H
 obtain ⟨t134,A70,H⟩:=H
 replace H:(some (Go.bits .xor .u32 (Go.bits .xor .u32 t132 t133) t134))=some r:=H
 have A7:=z_ A70
 clear A70
 obtain rfl:=Option.some.inj H
 go_enter Tryz.func96,Tryz.ntmps96
 go_wp2_with (first|((with_reducible refine gate_callee (f:=98) rfl ?_);refine goesL_ (some 12) rfl rfl Tryz.func98 (by kernel_rfl) rfl #[.int .u32 a0,.int .i64 (wrap64 (32-a1))] rfl (by (try simp only [List.map_toArray,List.map_cons,List.map_nil]);first|done|rfl|(simp only [List.length_drop,List.length_take];rfl)) ?_;(with_reducible refine (bits_RotateLeft32.calls a0 (wrap64 (32-a1)) t132 _ A5.out).mono ?_);rintro e w' ⟨rfl,⟨nd,rfl⟩⟩;refine ⟨_,rfl,?_⟩)|((with_reducible refine gate_callee (f:=98) rfl ?_);refine goesL_ (some 16) rfl rfl Tryz.func98 (by kernel_rfl) rfl #[.int .u32 a0,.int .i64 (wrap64 (32-a2))] rfl (by (try simp only [List.map_toArray,List.map_cons,List.map_nil]);first|done|rfl|(simp only [List.length_drop,List.length_take];rfl)) ?_;(with_reducible refine (bits_RotateLeft32.calls a0 (wrap64 (32-a2)) t133 _ A6.out).mono ?_);rintro e w' ⟨rfl,⟨nd,rfl⟩⟩;refine ⟨_,rfl,?_⟩)|((with_reducible refine gate_callee (f:=98) rfl ?_);refine goesL_ (some 21) rfl rfl Tryz.func98 (by kernel_rfl) rfl #[.int .u32 a0,.int .i64 (wrap64 (32-a3))] rfl (by (try simp only [List.map_toArray,List.map_cons,List.map_nil]);first|done|rfl|(simp only [List.length_drop,List.length_take];rfl)) ?_;(with_reducible refine (bits_RotateLeft32.calls a0 (wrap64 (32-a3)) t134 _ A7.out).mono ?_);rintro e w' ⟨rfl,⟨nd,rfl⟩⟩;refine ⟨_,rfl,?_⟩))
 go_ret
 exact ⟨by first|rfl|(simp;done)|(simp [*];done),by repeat (first|exact Drawn0.refl _|apply Drawn0.step)⟩
end Go.Proofs.YtdeneoknjeegbaaGreatDoor.P
end
section
namespace Go.Proofs.YtdeneoknjeegbaaGreatDoor.P
open Go.RowKit YtdeneoknjeegbaaGreatDoorW.PrintWords YtdeneoknjeegbaaGreatDoorW.PrintLast YtdeneoknjeegbaaGreatDoorW.PrintMore
def shaFirst:List Int:=[1779033703,3144134277,1013904242,2773480762,1359893119,2600822924,528734635,1541459225]
def shaAdded:List Int:=[1116352408,1899447441,3049323471,3921009573,961987163,1508970993,2453635748,2870763221,3624381080,310598401,607225278,1426881987,1925078388,2162078206,2614888103,3248222580,3835390401,4022224774,264347078,604807628,770255983,1249150122,1555081692,1996064986,2554220882,2821834349,2952996808,3210313671,3336571891,3584528711,113926993,338241895,666307205,773529912,1294757372,1396182291,1695183700,1986661051,2177026350,2456956037,2730485921,2820302411,3259730800,3345764771,3516065817,3600352804,4094571909,275423344,430227734,506948616,659060556,883997877,958139571,1322822218,1537002063,1747873779,1955562222,2024104815,2227730452,2361852424,2428436474,2756734187,3204031479,3329325298]
def GlobS (w:World):Prop:=(∀j,j<8->w.cell? ⟨0,j,none⟩=some (.int .u32 (shaFirst.getD j 0)))/\(∀j,j<64->w.cell? ⟨1,j,none⟩=some (.int .u32 (shaAdded.getD j 0)))
theorem GlobS.of {w0 w:World} (h:GlobS w0) (hb:Below w0.heap.size w0 w):GlobS w:=
 ⟨fun j hj=>(hb.cell (World.block_lt_of_cell? w0 _ (h.1 j hj))).trans (h.1 j hj),fun j hj=>(hb.cell (World.block_lt_of_cell? w0 _ (h.2 j hj))).trans (h.2 j hj)⟩
theorem GlobS.alloc {w:World} (h:GlobS w) (o:Obj):GlobS (w.alloc o):=h.of (below_alloc (Below.refl _ _) o)
def words (xs:List Int):Array Value:=(xs.map (Value.int .u32)).toArray
theorem words_get (xs:List Int) (i:Nat) (h:i<xs.length):(words xs)[i]? = some (.int .u32 (xs.getD i 0)):=by
 unfold words
 rw [List.getElem?_toArray,List.getElem?_map,List.getElem?_eq_getElem h,List.getD_eq_getElem?_getD,List.getElem?_eq_getElem h]
 rfl
theorem words_set (xs:List Int) (i:Nat) (x:Int):(words xs).setIfInBounds i (.int .u32 x)=words (xs.set i x):=by
 unfold words
 rw [List.map_set]
 simp
def IsWords (w:World) (g t:Nat) (xs:List Int):Prop:=w.heap[g]? = some (.cells (words xs) t (0,0))
theorem IsWords.cell {w:World} {g t:Nat} {xs:List Int} (h:IsWords w g t xs) (i:Nat) (hi:i<xs.length):w.cell? ⟨g,i,none⟩=some (.int .u32 (xs.getD i 0)):=
 (blk_cell h i).trans (words_get xs i hi)
theorem IsWords.frozen {w:World} {g t:Nat} {xs:List Int} (h:IsWords w g t xs) (i:Nat):w.frozen? ⟨g,i,none⟩=false:=blk_frozen h i
theorem IsWords.set {w:World} {g t:Nat} {xs:List Int} (h:IsWords w g t xs) (i:Nat) (x:Int):IsWords (w.setCell ⟨g,i,none⟩ (.int .u32 x)) g t (xs.set i x):=by
 unfold IsWords
 rw [<-words_set]
 exact blk_set h i _
theorem IsWords.drewN {w:World} {g t:Nat} {xs:List Int} (h:IsWords w g t xs) (n:Nat):IsWords (w.drewN n) g t xs:=h
def zeros64:List Int:=List.replicate 64 0
def sched2At (xs:List Int) (i:Nat):Int:=((((sha_gamma.f (xs.getD (i-2) 0) 17 19 10).getD 0+xs.getD (i-7) 0)%4294967296+(sha_gamma.f (xs.getD (i-15) 0) 7 18 3).getD 0)%4294967296+xs.getD (i-16) 0)%4294967296
def sched2 (xs:List Int):Nat->List Int
 | 0=>xs
 | k+1=>(sched2 xs k).set (k+16) (sched2At (sched2 xs k) (k+16))
def sched1 (bs:List Int):Nat->List Int
 | 0=>zeros64
 | k+1=>(sched1 bs k).set (k/4) (Go.bits .or .u32 (((sched1 bs k).getD (k/4) 0)*256%4294967296) (rd bs (k:Int)%4294967296))
def schedule (bs:List Int):List Int:=sched2 (sched1 bs 64) 48
theorem sched1_length (bs:List Int) (k:Nat):(sched1 bs k).length=64:=by
 induction k with
 | zero=>simp [sched1,zeros64]
 | succ k ih=>simp [sched1,ih]
theorem sched2_length (xs:List Int) (k:Nat) (h:xs.length=64):(sched2 xs k).length=64:=by
 induction k with
 | zero=>exact h
 | succ k ih=>simp [sched2,ih]
theorem cell_set_ne {w:World} {g i j n:Nat} {u:Value} (h:i≠j) (v:Value) (hc:w.cell? ⟨g,i,none⟩=some u):((w.drewN n).setCell ⟨g,j,none⟩ v).cell? ⟨g,i,none⟩=some u:=by
 refine (World.cell?_setCell_other _ _ _ _ (fun e=>?_)).trans ?_
 ·simp only [Addr.mk.injEq] at e
  omega
 ·exact hc
theorem bits_u64_nonneg (op:BinOp) (x y:Int):0<=Go.bits op .u64 x y:=by
 unfold Go.bits
 rw [IntKind.wrap_u64]
 omega
theorem rot_some (x n:Int) : ∃r,bits_RotateLeft32.f x n=some r:=by
 unfold bits_RotateLeft32.f
 rw [if_pos (bits_u64_nonneg _ _ _),if_pos (by rw [IntKind.wrap_u64];omega)]
 exact ⟨_,rfl⟩
theorem gamma_some (x a b c:Int) (hc:0<=c):sha_gamma.f x a b c=some ((sha_gamma.f x a b c).getD 0):=by
 unfold sha_gamma.f
 obtain ⟨r1,h1⟩:=rot_some x (wrap64 (32-a))
 obtain ⟨r2,h2⟩:=rot_some x (wrap64 (32-b))
 rw [h1,h2]
 simp only [Option.bind_some]
 rw [if_pos hc]
 rfl
theorem sigma_some (x a b c:Int):sha_sigma.f x a b c=some ((sha_sigma.f x a b c).getD 0):=by
 unfold sha_sigma.f
 obtain ⟨r1,h1⟩:=rot_some x (wrap64 (32-a))
 obtain ⟨r2,h2⟩:=rot_some x (wrap64 (32-b))
 obtain ⟨r3,h3⟩:=rot_some x (wrap64 (32-c))
 rw [h1,h2,h3]
 rfl
set_option maxHeartbeats 1000000 in
set_option maxRecDepth 100000 in
theorem scheduleOf_calls (A0:Option Addr) (c0:Nat) (bs:List Int) (w:World) (hr:Kd.C (Kd.int .u8) w A0 bs.length bs) (hc:bs.length<=c0) (hl:64<=bs.length) (hb:bs.length<9223372036854775807):
 Calls Tryz.prog 95 #[.slice A0 bs.length c0] w fun e w'=>e = .returned (.pointer (some ⟨w.heap.size,0,none⟩))/\IsWords w' w.heap.size 138 (schedule bs)/\Below w.heap.size w w':=by
 have HR:=z_ hr
 have hc64:64<=c0:=by omega
 clear hr hc
 go_enter Tryz.func95,Tryz.ntmps95
 go_wp2_with fail
 obtain ⟨g,hg⟩ : ∃g,g=w.heap.size:=⟨_,rfl⟩
 rw [<-hg]
 have HG:=z_ hg
 clear hg
 go_loopw [10] (fun v10 wr=>∃k:Nat,k<=64/\v10 = .int .i64 k/\Aside0 (IsWords wr g 138 (sched1 bs k))/\Aside0 (Below w.heap.size w wr)) (fun v10 _=>64-(intOf v10).toNat)
 case atStart=>exact ⟨0,by omega,rfl,⟨by rw [HG.out];exact heap_alloc_new w _⟩,⟨below_alloc (Below.refl _ _) _⟩⟩
 case round=>
  obtain ⟨k,hk,rfl,HI,HB⟩:=hrel
  by_cases hlt:k<64
  ·have hd:decide ((k:Int)<64)=true:=by simp;omega
   obtain ⟨ad,rfl,hx0⟩:=Kd.at_int HR.out (k:Int) (by omega) (by omega)
   have hx:=(HB.out.cell (World.block_lt_of_cell? w _ hx0)).trans hx0
   clear hx0
   rw [Int.toNat_natCast] at hx
   have hk4:k/4<64:=by omega
   have hc:=HI.out.cell (k/4) (by rw [sched1_length];omega)
   have hf:=HI.out.frozen (k/4)
   go_wp2_with fail
   go_roundw
   case rel=>
    refine ⟨k+1,by omega,by go_num,⟨?_⟩,⟨HB.out.setCell (by show w.heap.size<=g;rw [HG.out];omega) _⟩⟩
    have:=HI.out.set (k/4) (Go.bits .or .u32 (((sched1 bs k).getD (k/4) 0)*256%4294967296) (rd bs (k:Int)%4294967296))
    rw [List.getD_eq_getElem?_getD] at this
    simpa only [sched1,List.getD_eq_getElem?_getD] using this
   case measure=>simp [intOf];omega
  ·have hd:decide ((k:Int)<64)=false:=by simp;omega
   have hk64:k=64:=by omega
   rw [hk64] at HI
   clear hk64 hk hlt
   go_wp2_with fail
   obtain ⟨xs0,hxs0⟩ : ∃xs,xs=sched1 bs 64:=⟨_,rfl⟩
   have hl0:xs0.length=64:=by rw [hxs0];exact sched1_length _ _
   rw [<-hxs0] at HI
   have HL0:=z_ hl0
   have HX0:=z_ hxs0
   clear hl0 hxs0 hd
   go_loopw [6] (fun v6 wr=>∃k:Nat,k<=48/\v6 = .int .i64 (16+k:Nat)/\Aside0 (IsWords wr g 138 (sched2 xs0 k))/\Aside0 (Below w.heap.size w wr)) (fun v6 _=>64-(intOf v6).toNat)
   case atStart=>exact ⟨0,by omega,rfl,HI,HB⟩
   case round=>
    obtain ⟨k,hk,rfl,HI,HB⟩:=hrel
    by_cases hlt:k<48
    ·obtain ⟨j,hj⟩ : ∃j,j=16+k:=⟨_,rfl⟩
     rw [<-hj]
     obtain ⟨xs,hxs⟩ : ∃xs,xs=sched2 xs0 k:=⟨_,rfl⟩
     rw [<-hxs] at HI
     have hxl:xs.length=64:=by rw [hxs];exact sched2_length xs0 k HL0.out
     have HXS:=z_ hxs
     have HJ:=z_ hj
     have j0:16<=j:=by omega
     have j1:j<64:=by omega
     obtain ⟨x2,hx2⟩ : ∃x,x=xs.getD (j-2) 0:=⟨_,rfl⟩
     obtain ⟨x7,hx7⟩ : ∃x,x=xs.getD (j-7) 0:=⟨_,rfl⟩
     obtain ⟨x15,hx15⟩ : ∃x,x=xs.getD (j-15) 0:=⟨_,rfl⟩
     obtain ⟨x16,hx16⟩ : ∃x,x=xs.getD (j-16) 0:=⟨_,rfl⟩
     obtain ⟨j2,hj2⟩ : ∃x,x=j-2:=⟨_,rfl⟩
     have c2:=HI.out.cell (j-2) (by omega)
     rw [<-hj2] at c2 hx2
     have HJ2:=z_ hj2
     clear hj2
     obtain ⟨j7,hj7⟩ : ∃x,x=j-7:=⟨_,rfl⟩
     have c7:=HI.out.cell (j-7) (by omega)
     rw [<-hj7] at c7 hx7
     have HJ7:=z_ hj7
     clear hj7
     obtain ⟨j15,hj15⟩ : ∃x,x=j-15:=⟨_,rfl⟩
     have c15:=HI.out.cell (j-15) (by omega)
     rw [<-hj15] at c15 hx15
     have HJ15:=z_ hj15
     clear hj15
     obtain ⟨j16,hj16⟩ : ∃x,x=j-16:=⟨_,rfl⟩
     have c16:=HI.out.cell (j-16) (by omega)
     rw [<-hj16] at c16 hx16
     have HJ16:=z_ hj16
     clear hj16
     rw [<-hx2] at c2
     rw [<-hx7] at c7
     rw [<-hx15] at c15
     rw [<-hx16] at c16
     have hf:=HI.out.frozen j
     have hcj:=HI.out.cell j (by omega)
     have HX:=z_ (And.intro hx2 (And.intro hx7 (And.intro hx15 hx16)))
     have G1:=z_ (gamma_some x2 17 19 10 (by omega))
     have G2:=z_ (gamma_some x15 7 18 3 (by omega))
     obtain ⟨y1,hy1⟩ : ∃y,y=(sha_gamma.f x2 17 19 10).getD 0:=⟨_,rfl⟩
     obtain ⟨y2,hy2⟩ : ∃y,y=(sha_gamma.f x15 7 18 3).getD 0:=⟨_,rfl⟩
     rw [<-hy1] at G1
     rw [<-hy2] at G2
     have HY:=z_ (And.intro hy1 hy2)
     have HXL:=z_ hxl
     have HK:=z_ hlt
     clear hj hxs hx2 hx7 hx15 hx16 hy1 hy2 hxl hlt
     have hd:decide ((j:Int)<64)=true:=by simp;omega
     have pj:0<=(j:Int):=by omega
     have qj:(j:Int)<64:=by omega
     go_wp2_with fail
     have w2:IntKind.i64.wrap (j2:Int)=(j2:Int):=by have:=HJ2.out;exact IntWalk.i64_in _ ⟨by omega,by omega⟩
     have q2:(j2:Int)<64:=by have:=HJ2.out;omega
     have p2:0<=(j2:Int):=by omega
     have e2:(j:Int)-2=(j2:Int):=by have:=HJ2.out;omega
     have w7:IntKind.i64.wrap (j7:Int)=(j7:Int):=by have:=HJ7.out;exact IntWalk.i64_in _ ⟨by omega,by omega⟩
     have q7:(j7:Int)<64:=by have:=HJ7.out;omega
     have p7:0<=(j7:Int):=by omega
     have e7:(j:Int)-7=(j7:Int):=by have:=HJ7.out;omega
     have w15:IntKind.i64.wrap (j15:Int)=(j15:Int):=by have:=HJ15.out;exact IntWalk.i64_in _ ⟨by omega,by omega⟩
     have q15:(j15:Int)<64:=by have:=HJ15.out;omega
     have p15:0<=(j15:Int):=by omega
     have e15:(j:Int)-15=(j15:Int):=by have:=HJ15.out;omega
     have w16:IntKind.i64.wrap (j16:Int)=(j16:Int):=by have:=HJ16.out;exact IntWalk.i64_in _ ⟨by omega,by omega⟩
     have q16:(j16:Int)<64:=by have:=HJ16.out;omega
     have p16:0<=(j16:Int):=by omega
     have e16:(j:Int)-16=(j16:Int):=by have:=HJ16.out;omega
     go_region_held3 (fun w'=>w'.cell? ⟨g,j2,none⟩=some (.int .u32 x2)/\w'.cell? ⟨g,j7,none⟩=some (.int .u32 x7)/\w'.cell? ⟨g,j15,none⟩=some (.int .u32 x15)/\w'.cell? ⟨g,j16,none⟩=some (.int .u32 x16)) (first|go_keep|exact ⟨cell_set_ne (by have:=HJ2.out;omega) _ c2,cell_set_ne (by have:=HJ7.out;omega) _ c7,cell_set_ne (by have:=HJ15.out;omega) _ c15,cell_set_ne (by have:=HJ16.out;omega) _ c16⟩) (first|(go_at_call 97;((with_reducible refine (sha_gamma.calls x2 17 19 10 y1 _ G1.out).mono ?_);rintro e w' ⟨rfl,⟨m1,rfl⟩⟩))|(go_at_call 97;((with_reducible refine (sha_gamma.calls x15 7 18 3 y2 _ G2.out).mono ?_);rintro e w' ⟨rfl,⟨m2,rfl⟩⟩)))
     go_wp2_with fail
     go_roundw
     case rel=>
      have hX:=HX.out
      have hY:=HY.out
      have hv:(((y1+x7)%4294967296+y2)%4294967296+x16)%4294967296=sched2At (sched2 xs0 k) (k+16):=by
       unfold sched2At
       rw [<-HXS.out,show k+16=j from by rw [HJ.out];omega,<-HJ2.out,<-HJ7.out,<-HJ15.out,<-HJ16.out,<-hX.1,<-hX.2.1,<-hX.2.2.1,<-hX.2.2.2,<-hY.1,<-hY.2]
      refine ⟨k+1,by have:=HK.out;omega,by rw [HJ.out];go_num,⟨?_⟩,⟨(pw_below_drewN HB.out _).setCell (by show w.heap.size<=g;rw [HG.out];omega) _⟩⟩
      rw [hv]
      have h1:=(HI.out.drewN (1+m1+m2)).set j (sched2At (sched2 xs0 k) (k+16))
      have h2:sched2 xs0 (k+1)=xs.set j (sched2At (sched2 xs0 k) (k+16)):=by
       simp only [sched2]
       rw [<-HXS.out,show k+16=j from by rw [HJ.out];omega]
      rw [h2]
      exact h1
     case measure=>simp [intOf];have:=HJ.out;omega
    ·have hd:decide (((16+k:Nat):Int)<64)=false:=by simp;omega
     obtain rfl:k=48:=by omega
     go_wp2_with fail
     go_ret
     rw [<-HG.out]
     refine ⟨rfl,?_,by rw [HG.out];exact HB.out⟩
     unfold schedule
     rw [<-HX0.out]
     exact HI.out
structure Sums where
 a:Int
 b:Int
 c:Int
 d:Int
 e:Int
 f:Int
 g:Int
 h:Int
def Sums.list (s:Sums):List Int:=[s.a,s.b,s.c,s.d,s.e,s.f,s.g,s.h]
def Sums.round (s:Sums) (add wi:Int):Sums:=
 let t:=(s.h+(sha_sigma.f s.e 6 11 25).getD 0+Go.bits .xor .u32 (Go.bits .and .u32 s.e (Go.bits .xor .u32 s.f s.g)) s.g+add+wi)%4294967296
 let u:=((sha_sigma.f s.a 2 13 22).getD 0+Go.bits .or .u32 (Go.bits .and .u32 s.a (Go.bits .or .u32 s.b s.c)) (Go.bits .and .u32 s.b s.c))%4294967296
 ⟨(t+u)%4294967296,s.a,s.b,s.c,(s.d+t)%4294967296,s.e,s.f,s.g⟩
def Sums.rounds (ws:List Int) (s:Sums):Nat->Sums
 | 0=>s
 | k+1=>(Sums.rounds ws s k).round (shaAdded.getD k 0) (ws.getD k 0)
def addW (xs ys:List Int):Nat->List Int
 | 0=>xs
 | k+1=>(addW xs ys k).set k (((addW xs ys k).getD k 0+ys.getD k 0)%4294967296)
theorem addW_length (xs ys:List Int) (k:Nat):(addW xs ys k).length=xs.length:=by
 induction k with
 | zero=>rfl
 | succ k ih=>simp [addW,ih]
def Sums.take (s:Sums) (bs:List Int):List Int:=addW (Sums.rounds (schedule bs) s 64).list s.list 8
set_option maxRecDepth 100000 in
theorem sums_index (s:Sums) (k:Nat) (hk:k<8) (w:World):(Instr.index 125 (.agg #[.int .u32 s.a,.int .u32 s.b,.int .u32 s.c,.int .u32 s.d,.int .u32 s.e,.int .u32 s.f,.int .u32 s.g,.int .u32 s.h]) (.int .i64 (k:Int))).run Tryz.prog w = .ok (.int .u32 (s.list.getD k 0)) w:=by
 rcases (show k=0\/k=1\/k=2\/k=3\/k=4\/k=5\/k=6\/k=7 by omega) with rfl|rfl|rfl|rfl|rfl|rfl|rfl|rfl
 all_goals kernel_rfl
theorem IsSums.cells {w:World} {g t:Nat} {s:Sums} (h:IsWords w g t s.list):
 w.cell? ⟨g,0,none⟩=some (.int .u32 s.a)/\w.cell? ⟨g,1,none⟩=some (.int .u32 s.b)/\w.cell? ⟨g,2,none⟩=some (.int .u32 s.c)/\w.cell? ⟨g,3,none⟩=some (.int .u32 s.d)/\
 w.cell? ⟨g,4,none⟩=some (.int .u32 s.e)/\w.cell? ⟨g,5,none⟩=some (.int .u32 s.f)/\w.cell? ⟨g,6,none⟩=some (.int .u32 s.g)/\w.cell? ⟨g,7,none⟩=some (.int .u32 s.h):=
 ⟨blk_cell h 0,blk_cell h 1,blk_cell h 2,blk_cell h 3,blk_cell h 4,blk_cell h 5,blk_cell h 6,blk_cell h 7⟩
def put8 (w:World) (g:Nat) (v0 v1 v2 v3 v4 v5 v6 v7:Int):World:=
 ((((((((w.setCell ⟨g,0,none⟩ (.int .u32 v0)).setCell ⟨g,1,none⟩ (.int .u32 v1)).setCell ⟨g,2,none⟩ (.int .u32 v2)).setCell ⟨g,3,none⟩ (.int .u32 v3)).setCell ⟨g,4,none⟩ (.int .u32 v4)).setCell ⟨g,5,none⟩ (.int .u32 v5)).setCell ⟨g,6,none⟩ (.int .u32 v6)).setCell ⟨g,7,none⟩ (.int .u32 v7))
theorem put8_words {w:World} {g t:Nat} {s:Sums} (h:IsWords w g t s.list) (v0 v1 v2 v3 v4 v5 v6 v7:Int):IsWords (put8 w g v0 v1 v2 v3 v4 v5 v6 v7) g t [v0,v1,v2,v3,v4,v5,v6,v7]:=
 (((((((h.set 0 v0).set 1 v1).set 2 v2).set 3 v3).set 4 v4).set 5 v5).set 6 v6).set 7 v7
theorem put8_far {w:World} {g g2 t:Nat} {xs:List Int} (h:IsWords w g2 t xs) (hne:g2≠g) (v0 v1 v2 v3 v4 v5 v6 v7:Int):IsWords (put8 w g v0 v1 v2 v3 v4 v5 v6 v7) g2 t xs:=by
 exact blk_far (blk_far (blk_far (blk_far (blk_far (blk_far (blk_far (blk_far (h) hne _) hne _) hne _) hne _) hne _) hne _) hne _) hne _
theorem put8_below {w0 w:World} {g:Nat} (h:Below w0.heap.size w0 w) (hg:w0.heap.size<=g) (v0 v1 v2 v3 v4 v5 v6 v7:Int):Below w0.heap.size w0 (put8 w g v0 v1 v2 v3 v4 v5 v6 v7):=by
 exact Below.setCell (Below.setCell (Below.setCell (Below.setCell (Below.setCell (Below.setCell (Below.setCell (Below.setCell (h) hg _) hg _) hg _) hg _) hg _) hg _) hg _) hg _
theorem put8_keep {w0 w:World} {g:Nat} (h:KeepBut w0 w g none) (v0 v1 v2 v3 v4 v5 v6 v7:Int):KeepBut w0 (put8 w g v0 v1 v2 v3 v4 v5 v6 v7) g none:=by
 exact KeepBut.set_ (KeepBut.set_ (KeepBut.set_ (KeepBut.set_ (KeepBut.set_ (KeepBut.set_ (KeepBut.set_ (KeepBut.set_ (h) _ _) _ _) _ _) _ _) _ _) _ _) _ _) _ _
theorem quiet_drawn {P:Program} {f:FuncId} {args:Array Value} {w:World} {n:Nat} {v:Value}
 (h:Calls P f args (w.drewN n) fun e w'=>e = .returned v/\Drawn0 (w.drewN n) w'):Calls P f args (w.drewN n) fun e w''=>e = .returned v/\∃m,w''=w.drewN m:=
 Calls.quiet_of (h.mono fun _ _ ⟨he,hd⟩=>⟨he,hd.out⟩)
theorem quiet_drawn2 {P:Program} {f:FuncId} {args:Array Value} {w:World} {q n:Nat} {v:Value}
 (h:Calls P f args (w.drewN (q+n)) fun e w'=>e = .returned v/\Drawn0 (w.drewN (q+n)) w'):Calls P f args (w.drewN (q+n)) fun e w''=>e = .returned v/\∃m,w''=w.drewN (q+m):=
 h.mono fun _ _ ⟨he,hd⟩=>by
  obtain ⟨m,hm⟩:=hd.out
  exact ⟨he,n+m,by rw [hm,World.drewN_drewN,Nat.add_assoc]⟩
theorem still_tail_at {P:Program} {id:Nat} {Q:Exit->Act->World->Prop} {a:Act} {w:World} {l:List Oper} (n:Nat) (hm:P.follows .mixedOrders=true) (hB:Region.lexTailB .any l.toArray n=true)
 (h : ∀W:World,W=w.drew->wpStill P l.toArray W (fun a'=>wpList P l.toArray Q (l.drop n) a' W) (l.take n) a):(Code.region id l.toArray true).wp P Q a w:=
 wp_region_still_tail n hm hB (h _ rfl)
set_option maxHeartbeats 4000000 in
set_option maxRecDepth 100000 in
theorem take_calls (g:Nat) (s:Sums) (A0:Option Addr) (cap:Nat) (bs:List Int) (w0 w:World) (hI:IsWords w g 125 s.list) (hge:w0.heap.size<=g) (hr:Kd.C (Kd.int .u8) w A0 bs.length bs) (hc:bs.length<=cap) (hl:64<=bs.length) (hb:bs.length<9223372036854775807)
 (hB:Below w0.heap.size w0 w) (hGS:GlobS w0):
 Calls Tryz.prog 88 #[.pointer (some ⟨g,0,none⟩),.slice A0 bs.length cap] w fun e w'=>e = .returned (.tuple #[])/\IsWords w' g 125 (s.take bs)/\Below w0.heap.size w0 w'/\KeepBut w w' g none:=by
 have HLT:=z_ (blk_lt hI)
 have HR:=z_ hr
 have HI:=z_ hI
 have HB:=z_ hB
 have HGS:=z_ hGS
 clear hr hI hB hGS
 go_enter Tryz.func88,Tryz.ntmps88
 go_wp2_with fail
 refine (scheduleOf_calls A0 cap bs w HR.out hc hl hb).mono ?_
 rintro e1 w1 ⟨rfl,hW1,hB1⟩
 have hI1:IsWords w1 g 125 s.list:=blk_below HI.out hB1
 obtain ⟨c0,c1,c2,c3,c4,c5,c6,c7⟩:=IsSums.cells hI1
 have HI1:=z_ hI1
 have HB1:=z_ hB1
 have HW1:=z_ hW1
 clear hW1 hI1 hB1
 go_wp2_with fail
 obtain ⟨gw,hgw⟩ : ∃x,x=w.heap.size:=⟨_,rfl⟩
 obtain ⟨gs,hgs⟩ : ∃x,x=w1.heap.size:=⟨_,rfl⟩
 rw [<-hgw,<-hgs]
 have HGW:=z_ hgw
 have HGSz:=z_ hgs
 obtain ⟨ws,hws⟩ : ∃x,x=schedule bs:=⟨_,rfl⟩
 have HWS:=z_ hws
 clear hgw hgs hws c0 c1 c2 c3 c4 c5 c6 c7
 go_loopw [18] (fun v18 wr=>∃k:Nat,k<=64/\v18 = .int .i64 k/\Aside0 (IsWords wr g 125 (Sums.rounds ws s k).list)/\Aside0 (IsWords wr gw 138 ws)/\Aside0 (IsWords wr gs 125 s.list)/\Aside0 (Below w0.heap.size w0 wr)/\Aside0 (KeepBut w wr g none)) (fun v18 _=>64-(intOf v18).toNat)
 case atStart=>
  refine ⟨0,by omega,rfl,⟨blk_alloc HI1.out _⟩,⟨?_⟩,⟨?_⟩,⟨below_alloc (below_then HB.out HB.out.size HB1.out) _⟩,⟨?_⟩⟩
  ·rw [HWS.out,HGW.out]
   exact blk_alloc HW1.out _
  ·rw [HGSz.out]
   exact heap_alloc_new w1 _
  ·exact ⟨by have:=HB1.out.size;simp;omega,fun i hi _ _=>(Below.heap_alloc _ _ _ (by have:=HB1.out.size;omega)).trans (HB1.out.block i hi)⟩
 case round=>
  obtain ⟨k,hk,rfl,HI,HW,HS,HB,HK⟩:=hrel
  by_cases hlt:k<64
  ·have hd:decide ((k:Int)<64)=true:=by simp;omega
   obtain ⟨S,hS⟩ : ∃x,x=Sums.rounds ws s k:=⟨_,rfl⟩
   rw [<-hS] at HI
   obtain ⟨c0,c1,c2,c3,c4,c5,c6,c7⟩:=IsSums.cells HI.out
   have f0:=HI.out.frozen 0
   have hws64:ws.length=64:=by rw [HWS.out];exact sched2_length _ _ (sched1_length _ _)
   have cw:=HW.out.cell k (by omega)
   have ca:=(GlobS.of HGS.out HB.out).2 k hlt
   obtain ⟨wi,hwi⟩ : ∃x,x=ws.getD k 0:=⟨_,rfl⟩
   obtain ⟨ai,hai⟩ : ∃x,x=shaAdded.getD k 0:=⟨_,rfl⟩
   rw [<-hwi] at cw
   rw [<-hai] at ca
   have pk:0<=(k:Int):=by omega
   have qk:(k:Int)<64:=by omega
   have G1:=z_ (sigma_some S.e 6 11 25)
   have G2:=z_ (sigma_some S.a 2 13 22)
   obtain ⟨y1,hy1⟩ : ∃y,y=(sha_sigma.f S.e 6 11 25).getD 0:=⟨_,rfl⟩
   obtain ⟨y2,hy2⟩ : ∃y,y=(sha_sigma.f S.a 2 13 22).getD 0:=⟨_,rfl⟩
   rw [<-hy1] at G1
   rw [<-hy2] at G2
   have HX:=z_ (And.intro hS (And.intro hwi (And.intro hai (And.intro hy1 (And.intro hy2 hlt)))))
   clear hS hwi hai hy1 hy2 hws64 hlt
   go_wp2_with fail
   go_quiet (fail)
   go_wp2_with fail
   go_quiet ((go_at_call 96;(first|exact quiet_drawn2 (sha_sigma.calls S.e 6 11 25 y1 _ G1.out)|exact quiet_drawn (sha_sigma.calls S.e 6 11 25 y1 _ G1.out))))
   go_wp2_with fail
   go_quiet ((go_at_call 96;(first|exact quiet_drawn2 (sha_sigma.calls S.a 2 13 22 y2 _ G2.out)|exact quiet_drawn (sha_sigma.calls S.a 2 13 22 y2 _ G2.out))))
   go_wp2_with fail
   refine still_tail_at 30 (by kernel_rfl) (by kernel_rfl) (fun W hW=>?_)
   have HIW:IsWords W g 125 S.list:=by rw [hW];exact HI.out
   have HWW:Aside0 (IsWords W gw 138 ws):=⟨by rw [hW];exact HW.out⟩
   have HSW:Aside0 (IsWords W gs 125 s.list):=⟨by rw [hW];exact HS.out⟩
   have HBW:Aside0 (Below w0.heap.size w0 W):=⟨by rw [hW];exact below_drew1 (pw_below_drewN (pw_below_drewN (pw_below_drewN HB.out _) _) _)⟩
   have HKW:Aside0 (KeepBut w W g none):=⟨by rw [hW];exact HK.out⟩
   obtain ⟨c0,c1,c2,c3,c4,c5,c6,c7⟩:=IsSums.cells HIW
   have f0:=HIW.frozen 0
   have f1:=HIW.frozen 1
   have f2:=HIW.frozen 2
   have f3:=HIW.frozen 3
   have f4:=HIW.frozen 4
   have f5:=HIW.frozen 5
   have f6:=HIW.frozen 6
   have f7:=HIW.frozen 7
   have HIw:=z_ HIW
   clear HIW hW HI HW HS HB HK cw ca
   simp only [List.take_succ_cons,List.take_zero,List.drop_succ_cons,List.drop_zero]
   repeat still_step
   refine wpStill_nil ?_
   go_wp2_with fail
   go_roundw
   case measure=>simp [intOf];have:=HX.out.2.2.2.2.2;omega
   case rel=>
    refine ⟨k+1,by have:=HX.out.2.2.2.2.2;omega,by go_num,⟨?_⟩,⟨?_⟩,⟨?_⟩,⟨?_⟩,⟨?_⟩⟩
    ·have hX:=HX.out
     have hp:=put8_words HIw.out ((S.h+y1+Go.bits .xor .u32 (Go.bits .and .u32 S.e (Go.bits .xor .u32 S.f S.g)) S.g+ai+wi+(y2+Go.bits .or .u32 (Go.bits .and .u32 S.a (Go.bits .or .u32 S.b S.c)) (Go.bits .and .u32 S.b S.c)))%4294967296) S.a S.b S.c ((S.d+(S.h+y1+Go.bits .xor .u32 (Go.bits .and .u32 S.e (Go.bits .xor .u32 S.f S.g)) S.g+ai+wi))%4294967296) S.e S.f S.g
     have hq:(Sums.rounds ws s (k+1)).list = [(S.h+y1+Go.bits .xor .u32 (Go.bits .and .u32 S.e (Go.bits .xor .u32 S.f S.g)) S.g+ai+wi+(y2+Go.bits .or .u32 (Go.bits .and .u32 S.a (Go.bits .or .u32 S.b S.c)) (Go.bits .and .u32 S.b S.c)))%4294967296,S.a,S.b,S.c,(S.d+(S.h+y1+Go.bits .xor .u32 (Go.bits .and .u32 S.e (Go.bits .xor .u32 S.f S.g)) S.g+ai+wi))%4294967296,S.e,S.f,S.g]:=by
      simp only [Sums.rounds]
      rw [<-hX.1,<-hX.2.1,<-hX.2.2.1]
      simp only [Sums.round,Sums.list]
      rw [<-hX.2.2.2.1,<-hX.2.2.2.2.1]
      generalize Go.bits .xor .u32 (Go.bits .and .u32 S.e (Go.bits .xor .u32 S.f S.g)) S.g=X
      generalize Go.bits .or .u32 (Go.bits .and .u32 S.a (Go.bits .or .u32 S.b S.c)) (Go.bits .and .u32 S.b S.c)=Y
      have q1:((S.h+y1+X+ai+wi)%4294967296+(y2+Y)%4294967296)%4294967296=(S.h+y1+X+ai+wi+(y2+Y))%4294967296:=by omega
      have q2:(S.d+(S.h+y1+X+ai+wi)%4294967296)%4294967296=(S.d+(S.h+y1+X+ai+wi))%4294967296:=by omega
      rw [q1,q2]
     rw [hq]
     exact hp
    ·exact put8_far HWW.out (by rw [HGW.out];have:=HLT.out;omega) _ _ _ _ _ _ _ _
    ·exact put8_far HSW.out (by rw [HGSz.out];have:=HLT.out;have:=HB1.out.size;omega) _ _ _ _ _ _ _ _
    ·exact put8_below HBW.out hge _ _ _ _ _ _ _ _
    ·exact put8_keep HKW.out _ _ _ _ _ _ _ _
  ·have hd:decide ((k:Int)<64)=false:=by simp;omega
   have hk64:k=64:=by omega
   rw [hk64] at HI
   obtain ⟨S,hS⟩ : ∃x,x=Sums.rounds ws s 64:=⟨_,rfl⟩
   rw [<-hS] at HI
   obtain ⟨c0,c1,c2,c3,c4,c5,c6,c7⟩:=IsSums.cells HS.out
   have HX:=z_ hS
   clear hS hk64 hk hlt HW
   go_wp2_with fail
   clear c0 c1 c2 c3 c4 c5 c6 c7 hd HS
   go_loopw [119] (fun v119 wr=>∃k:Nat,k<=8/\v119 = .int .i64 k/\Aside0 (IsWords wr g 125 (addW S.list s.list k))/\Aside0 (Below w0.heap.size w0 wr)/\Aside0 (KeepBut w wr g none)) (fun v119 _=>8-(intOf v119).toNat)
   case atStart=>exact ⟨0,by omega,rfl,HI,HB,HK⟩
   case round=>
    clear HI HB HK
    obtain ⟨k,hk,rfl,HI,HB,HK⟩:=hrel
    by_cases hlt:k<8
    ·have hd:decide ((k:Int)<8)=true:=by simp;omega
     have hix:=sums_index s k hlt
     have pk:0<=(k:Int):=by omega
     have qk:(k:Int)<8:=by omega
     obtain ⟨y,hy⟩ : ∃y,y=s.list.getD k 0:=⟨_,rfl⟩
     obtain ⟨x,hx⟩ : ∃x,x=(addW S.list s.list k).getD k 0:=⟨_,rfl⟩
     have hc:=HI.out.cell k (by rw [addW_length];exact hlt)
     have hf:=HI.out.frozen k
     rw [<-hx] at hc
     rw [<-hy] at hix
     have HXY:=z_ (And.intro hx (And.intro hy hlt))
     clear hx hy hlt
     go_wp2_with fail
     refine still_tail_at 9 (by kernel_rfl) (by kernel_rfl) (fun W hW=>?_)
     have hcW:W.cell? ⟨g,k,none⟩=some (.int .u32 x):=by rw [hW];exact hc
     have hfW:W.frozen? ⟨g,k,none⟩=false:=by rw [hW];exact hf
     have HIW:Aside0 (IsWords W g 125 (addW S.list s.list k)):=⟨by rw [hW];exact HI.out⟩
     have HBW:Aside0 (Below w0.heap.size w0 W):=⟨by rw [hW];exact below_drew1 HB.out⟩
     have HKW:Aside0 (KeepBut w W g none):=⟨by rw [hW];exact HK.out⟩
     clear hW HI HB HK hc hf
     simp only [List.take_succ_cons,List.take_zero,List.drop_succ_cons,List.drop_zero]
     repeat still_step
     refine wpStill_nil ?_
     go_wp2_with fail
     go_roundw
     case measure=>simp [intOf];have:=HXY.out.2.2;omega
     case rel=>
      refine ⟨k+1,by have:=HXY.out.2.2;omega,by go_num,⟨?_⟩,⟨HBW.out.setCell hge _⟩,⟨HKW.out.set_ _ _⟩⟩
      simp only [addW]
      rw [<-HXY.out.1,<-HXY.out.2.1]
      exact HIW.out.set k _
    ·have hd:decide ((k:Int)<8)=false:=by simp;omega
     have hk8:k=8:=by omega
     rw [hk8] at HI
     clear hk8 hk hlt
     go_wp2_with fail
     go_end0
     refine ⟨rfl,?_,HB.out,HK.out⟩
     unfold Sums.take
     rw [<-HWS.out,<-HX.out]
     exact HI.out
set_option maxRecDepth 100000 in
theorem new_calls (size room:Int) (w:World) (h1:1<=size) (h2:size<=32) (h3:1<=room) (h4:room<=4194304):
 Calls Tryz.prog 4 #[.int .i64 size,.int .i64 room] w fun e w'=>e = .returned (.tuple #[.pointer (some ⟨w.heap.size,0,none⟩),.int .i64 0])/\ABlk w' w.heap.size size room (.slice none 0 0) (.slice none 0 0)/\Below w.heap.size w w':=by
 have d1:decide (size<1)=false:=decide_eq_false (by omega)
 have d2:decide (32<size)=false:=decide_eq_false (by omega)
 have d3:decide (room<1)=false:=decide_eq_false (by omega)
 have d4:decide (4194304<room)=false:=decide_eq_false (by omega)
 clear h1 h2 h3 h4
 go_enter Tryz.func4,Tryz.ntmps4
 go_wp2_with fail
 go_ret2
 exact ⟨rfl,heap_alloc_new w _,below_alloc (Below.refl _ _) _⟩
def cell0:List Value:=[.bool false,.bool false,.slice none 0 0,.slice none 0 0,.int .i64 0,.int .i64 0,.slice none 0 0,.int .i64 0,.int .i64 0,.int .i64 0,.slice none 0 0]
theorem infoCell:(Tryz.prog.info? 103).map (fun i=>(i.zero,i.size,i.bytes))=some (some (.agg #[.bool false,.bool false,.slice none 0 0,.slice none 0 0,.int .i64 0,.int .i64 0,.slice none 0 0,.int .i64 0,.int .i64 0,.int .i64 0,.slice none 0 0]),11,152):=by kernel_rfl
abbrev CellsR (w:World) (base:Nat) (v:Value) (cs:List (List Value)):Prop:=Kd.R (Kd.raw 11) 103 w base (fun _=>True) v cs
theorem ABlk.grown {w w1:World} {p base:Nat} {size room:Int} {vc vf:Value} {cs:List (List Value)} (h:ABlk w p size room vc vf) (hR:CellsR w base vc cs) (hg:w.grownBy w1 vc.ownBlock):ABlk w1 p size room vc vf:=
 (hg.block p h.lt (Kd.R_ne hR h (by decide))).trans h
theorem ABlk.set2 {w:World} {p:Nat} {size room:Int} {vc vf:Value} (h:ABlk w p size room vc vf) (v:Value):ABlk (w.setCell ⟨p,2,none⟩ v) p size room v vf:=by
 have:=blk_set h 2 v
 exact this
theorem ABlk.set3 {w:World} {p:Nat} {size room:Int} {vc vf:Value} (h:ABlk w p size room vc vf) (v:Value):ABlk (w.setCell ⟨p,3,none⟩ v) p size room vc v:=by
 have:=blk_set h 3 v
 exact this
set_option maxHeartbeats 4000000 in
set_option maxRecDepth 100000 in
theorem put_grow {w:World} {p base:Nat} {size room:Int} {vc:Value} {A':Option Addr} {c':Nat} {cs:List (List Value)} (lf:Bool) (A1 A2 A5 A9:Option Addr) (n1 n2 n5 n9 c1 c2 c5 c9:Nat) (x3 x4 x6 x7 x8:Int)
 (h:ABlk w p size room vc (.slice A' 0 c')) (hR:CellsR w base vc cs) (hs:size≠0) (hb:base<=p) (hr:(cs.length:Int)<room) (hr1:room<=4194304):
 Calls Tryz.prog 58 #[.pointer (some ⟨p,0,none⟩),.agg #[.bool lf,.slice A1 n1 c1,.slice A2 n2 c2,.int .i64 x3,.int .i64 x4,.slice A5 n5 c5,.int .i64 x6,.int .i64 x7,.int .i64 x8,.slice A9 n9 c9]] w
  fun e w'=>e = .returned (.tuple #[.int .i64 (cs.length:Int),.int .i64 0])/\∃v1,ABlk w' p size room v1 (.slice A' 0 c')/\CellsR w' base v1 (cs++[[.bool true,.bool lf,.slice A1 n1 c1,.slice A2 n2 c2,.int .i64 x3,.int .i64 x4,.slice A5 n5 c5,.int .i64 x6,.int .i64 x7,.int .i64 x8,.slice A9 n9 c9]])/\
   (v1.ownBlock=vc.ownBlock\/∃b,v1.ownBlock=some b/\w.heap.size<=b)/\KeepBut w w' p vc.ownBlock/\(base<=w.heap.size->Below base w w'):=by
 obtain ⟨A,c,rfl⟩:=Kd.R_slice hR
 have HBk:=z_ h
 have HR:=z_ hR
 have HS:=z_ hs
 have HBP:=z_ hb
 obtain ⟨u,hu⟩ : ∃u,u=room-((cs.length:Int)-((0:Nat):Int)):=⟨_,rfl⟩
 have hu0:(u==0)=false:=by simp;omega
 obtain ⟨b0,hb0⟩ : ∃b,b=w.heap.size:=⟨_,rfl⟩
 have HRL:=z_ hr
 have HRM:=z_ hr1
 have HU:=z_ hu
 have HB0:=z_ hb0
 clear h hR hs hb hr hr1 hu
 go_enter Tryz.func58,Tryz.ntmps58
 go_wp2_with fail
 refine (room_calls (A:=A) (n:=cs.length) (c:=c) (HBk.out.below (below_alloc (Below.refl _ _) _)) HS.out (by have:=HRL.out;have:=HRM.out;omega) (by omega) (by have:=HRL.out;omega) (by have:=HRM.out;omega)).mono ?_
 rw [<-HU.out]
 rintro e w' ⟨rfl,⟨m,rfl⟩⟩
 obtain ⟨W1,hW1⟩ : ∃W1,W1=(w.alloc (.cells #[.bool lf,.slice A1 n1 c1,.slice A2 n2 c2,.int .i64 x3,.int .i64 x4,.slice A5 n5 c5,.int .i64 x6,.int .i64 x7,.int .i64 x8,.slice A9 n9 c9] 59)).drewN m:=⟨_,rfl⟩
 rw [<-hW1]
 have hB1:Below w.heap.size w W1:=by rw [hW1];exact pw_below_drewN (below_alloc (Below.refl _ _) _) _
 have hN1:W1.heap[w.heap.size]? = some (.cells #[.bool lf,.slice A1 n1 c1,.slice A2 n2 c2,.int .i64 x3,.int .i64 x4,.slice A5 n5 c5,.int .i64 x6,.int .i64 x7,.int .i64 x8,.slice A9 n9 c9] 59 (0,0)):=by rw [hW1];exact heap_alloc_new w _
 have HN1:=z_ hN1
 have HB1:=z_ hB1
 have HR1:=z_ (Kd.R_below HR.out hB1)
 have HBk1:=z_ (HBk.out.below hB1)
 clear hN1 hB1 hW1
 obtain ⟨k0,k1,k2,k3⟩:=HBk1.out.cells
 go_wp2_with fail
 refine (len_calls A' 0 c' _).mono ?_
 rintro e w' ⟨rfl,rfl⟩
 have hbs:base<=W1.heap.size:=by have:=HBP.out;have:=HBk1.out.lt;omega
 have HBS:=z_ hbs
 clear hbs
 go_wp2_with (first|((with_reducible refine gate_builtin (b:=.append) (xs:=#[.tmp 31,.tmp 33]) rfl ?_);go_must (at_builtin;refine Kd.R_append (Kd.raw 11) (w0:=W1) base rfl (.tmp 31) (.tmp 33) 49 103 (.agg #[.bool false,.bool false,.slice none 0 0,.slice none 0 0,.int .i64 0,.int .i64 0,.slice none 0 0,.int .i64 0,.int .i64 0,.int .i64 0,.slice none 0 0]) 152 rfl Tryz.underlying49 infoCell rfl (by decide) (by omega) (.slice A cs.length c) cs cell0 cell0 (fun _=>True) (fun _=>False) rfl rfl ?aP (fun _ h=>h.elim) ?aF ?aO ?aB ?aS ?aL ?_;(case aP=>exact ⟨rfl,rfl,by decide⟩);(case aF=>exact (fun _ _=>trivial));(case aO=>exact HR1.out);(case aB=>exact Below.refl _ _);(case aS=>exact HBS.out);(case aL=>have:=HRL.out;have:=HRM.out;omega);intro v2 w2 ho hb2 hg hat;obtain ⟨Av,cv,rfl⟩:=Kd.R_slice ho;have HO2:=z_ ho;have HG2:=z_ hg;have HAT:=z_ hat;have HB2:=z_ hb2;have HBk2:=z_ (HBk1.out.grown HR1.out hg);clear ho hb2 hg hat k0 k1 k2 k3;obtain ⟨k0,k1,k2,k3⟩:=HBk2.out.cells;have kf:=blk_frozen HBk2.out 2)))
 rw [List.length_append,show cell0 :: [] = [cell0] from rfl] at HO2
 have hO3:=Kd.R_set HO2.out HBk2.out (by decide) 2 (.slice Av (cs.length+1) cv)
 have hBk3:=HBk2.out.set2 (.slice Av (cs.length+1) cv)
 have hpw:p<w.heap.size:=HBk.out.lt
 have hN2:=(HG2.out.block w.heap.size (by have:=HB1.out.size;exact blk_lt HN1.out) (Kd.R_ne HR1.out HN1.out (by decide))).trans HN1.out
 have hN3:=blk_far hN2 (p:=⟨p,2,none⟩) (by show w.heap.size≠p;omega) (.slice Av (cs.length+1) cv)
 obtain ⟨W3,hW3⟩ : ∃W3,W3=w2.setCell ⟨p,2,none⟩ (.slice Av (cs.length+1) cv):=⟨_,rfl⟩
 rw [<-hW3] at hO3 hBk3 hN3
 rw [<-hW3]
 have HW3:=z_ hW3
 have HO3:=z_ hO3
 have HBk3:=z_ hBk3
 have HN3:=z_ hN3
 clear hO3 hBk3 hN3 hW3 hN2 hpw k0 k1 k2 k3 kf
 have hO:=HO3.out
 have hrd:=Kd.R_reads' hO
 have hn1:(cs++[cell0]).length=cs.length+1:=by simp
 obtain ⟨ad,cc,rfl,hcl,hcK,hcc⟩:=Kd.C_get hrd.2.2 ([]:List Value) (cs.length:Int) (by omega) (by rw [hn1];omega)
 obtain ⟨g,rfl⟩:=Kd.R_head hO
 have hcc0:cc=cell0:=by
  have:=hcK.1
  rw [this,Int.toNat_natCast]
  simp
 obtain rfl:=hcc0
 have HCC:=z_ hcc
 have q1:(cs.length:Int)<(cs.length:Int)+1:=by omega
 have q2:0<=(cs.length:Int):=by omega
 clear hn1 hO hrd hcl hcK hcc
 refine still_tail_at 8 (by kernel_rfl) (by kernel_rfl) (fun W hW=>?_)
 replace HBk3:Aside0 (ABlk W p size room (.slice (some ⟨g,0,none⟩) (cs.length+1) cv) (.slice A' 0 c')):=⟨by rw [hW];exact HBk3.out⟩
 replace HN3:Aside0 (W.heap[w.heap.size]? = some (.cells #[.bool lf,.slice A1 n1 c1,.slice A2 n2 c2,.int .i64 x3,.int .i64 x4,.slice A5 n5 c5,.int .i64 x6,.int .i64 x7,.int .i64 x8,.slice A9 n9 c9] 59 (0,0))):=⟨by rw [hW];exact HN3.out⟩
 replace HO3:Aside0 (CellsR W base (.slice (some ⟨g,0,none⟩) (cs.length+1) cv) (cs++[cell0])):=⟨by rw [hW];exact Kd.R_below HO3.out (below_drew (Below.refl _ _))⟩
 replace HCC:Aside0 (∀j u,cell0[j]? = some u->W.cell? ⟨g,(cs.length:Int).toNat*11+j,none⟩=some u):=⟨by rw [hW];intro j u hj;have:=HCC.out j u hj;rwa [add_plain] at this⟩
 have HW:=z_ hW
 clear hW
 obtain ⟨k0,k1,k2,k3⟩:=HBk3.out.cells
 have m0:=blk_cell HN3.out 0
 have m1:=blk_cell HN3.out 1
 have m2:=blk_cell HN3.out 2
 have m3:=blk_cell HN3.out 3
 have m4:=blk_cell HN3.out 4
 have m5:=blk_cell HN3.out 5
 have m6:=blk_cell HN3.out 6
 have m7:=blk_cell HN3.out 7
 have m8:=blk_cell HN3.out 8
 have m9:=blk_cell HN3.out 9
 simp only [List.take_succ_cons,List.take_zero,List.drop_succ_cons,List.drop_zero]
 repeat still_step
 refine wpStill_nil ?_
 clear k0 k1 k2 k3 m0 m1 m2 m3 m4 m5 m6 m7 m8 m9 q1 q2
 refine Kd.R_store (Kd.raw 11) (w0:=W) base rfl rfl 103 (.tmp 44) (.tmp 43) rfl 103 (g:=g) (n:=cs.length+1) (cap:=cv) (o':=cs.length*11) (cs.length:Int) 0 (cs++[cell0]) [.bool true,.bool lf,.slice A1 n1 c1,.slice A2 n2 c2,.int .i64 x3,.int .i64 x4,.slice A5 n5 c5,.int .i64 x6,.int .i64 x7,.int .i64 x8,.slice A9 n9 c9] (.agg #[.bool true,.bool lf,.slice A1 n1 c1,.slice A2 n2 c2,.int .i64 x3,.int .i64 x4,.slice A5 n5 c5,.int .i64 x6,.int .i64 x7,.int .i64 x8,.slice A9 n9 c9]) [.bool true,.bool lf,.slice A1 n1 c1,.slice A2 n2 c2,.int .i64 x3,.int .i64 x4,.slice A5 n5 c5,.int .i64 x6,.int .i64 x7,.int .i64 x8,.slice A9 n9 c9] cell0 (fun _=>True) (fun _=>False) rfl rfl rfl rfl (by kernel_rfl) (by intro q hq;simp only [List.mem_cons,List.not_mem_nil,or_false] at hq;rcases hq with rfl|rfl|rfl|rfl|rfl|rfl|rfl|rfl|rfl|rfl|rfl<;>rfl) HO3.out (by omega) (by omega) rfl HCC.out (Nat.le_refl 11) ⟨rfl,rfl,by intro q hq;simp only [cell0,List.take_zero,List.nil_append,List.cons_append,List.mem_cons,List.not_mem_nil,or_false,List.drop_succ_cons,List.drop_zero,List.append_nil,Nat.zero_add,List.length_cons,List.length_nil,List.drop_nil] at hq;rcases hq with rfl|rfl|rfl|rfl|rfl|rfl|rfl|rfl|rfl|rfl|rfl<;>rfl⟩ (fun _ h=>h.elim) (Below.refl _ _) ?_
 intro w4 hO4 hB4 hG4
 have HO4:=z_ hO4
 have HB4:=z_ hB4
 have HG4:=z_ hG4
 clear hO4 hB4 hG4
 go_wp2_with fail
 go_ret2
 have hgb:base<=g:=Kd.R_base HO3.out g (by simp [Value.ownBlock])
 have hgp:some p≠some g:=by
  have:=Kd.R_ne HO3.out HBk3.out (by decide)
  simpa [Value.ownBlock] using this
 have hBk4:ABlk w4 p size room (.slice (some ⟨g,0,none⟩) (cs.length+1) cv) (.slice A' 0 c'):=(HG4.out.block p HBk3.out.lt hgp).trans HBk3.out
 have hrow:=HO4.out
 rw [Int.toNat_natCast,List.set_append_right _ _ (Nat.le_refl _),Nat.sub_self] at hrow
 have s1:=HB1.out.size
 have hat:(Value.slice (some ⟨g,0,none⟩) (cs.length+1) cv).ownBlock=(Value.slice A cs.length c).ownBlock\/∃b,(Value.slice (some ⟨g,0,none⟩) (cs.length+1) cv).ownBlock=some b/\w.heap.size<=b:=by
  rcases HAT.out with h|⟨b,h,hle⟩
  ·exact .inl h
  ·exact .inr ⟨b,h,by omega⟩
 have hW3:Below base W1 W:=by
  rw [HW.out]
  have h3:Below base W1 W3:=by rw [HW3.out];exact HB2.out.setCell (by show base<=p;exact HBP.out) _
  exact below_drew1 h3
 refine ⟨rfl,_,hBk4,hrow,hat,⟨?_,?_⟩,fun hbw=>((HB1.out.mono hbw).trans hW3).trans HB4.out⟩
 ·have:=hW3.size
  have:=HB4.out.size
  omega
 ·intro i hi hip hio
  have e1:w4.heap[i]? = W.heap[i]? := by
   refine HG4.out.block i ?_ ?_
   ·have:=hW3.size
    omega
   ·rcases HAT.out with h|⟨b,h,hle⟩
    ·rw [<-h] at hio
     exact hio
    ·intro he
     have:some i=some b:=he.trans h
     injection this with this
     omega
  have e2:W.heap[i]? = w2.heap[i]? := by
   rw [HW.out]
   show W3.heap[i]? = _
   rw [HW3.out]
   exact Below.heap_setCell w2 ⟨p,2,none⟩ _ i hip
  exact e1.trans (e2.trans ((HG2.out.block i (by omega) hio).trans (HB1.out.block i hi)))
theorem wrap_run (P:Program) (ats:Array TypeId) (t:TypeId) (a:Addr) (x y:String) (w:World):Sem.run P (Builtin.ssaWrapNilChk_ ats t #[.pointer (some a),strVal x,strVal y]) w = .ok (.pointer (some a)) w:=rfl
theorem method_val {P:Program} {t e:TypeId} {name:String} {f:FuncId} (n:Nat) (h:(P.info? t).bind (fun i=>(i.methods.find? (·.name==name)).map (fun m=>(m.path.size,m.func)))=some (0,some (f,false))) (hu:P.underlying t=some (.pointer e)) (he : ∀w,Sem.run P (isAgg e) w = .ok false w) {w:World} {a:Addr} {v:Value} (hv:w.cell? a=some v):Sem.run P (method (n+1) t (.pointer (some a)) name) w = .ok (f,v) w:=by
 cases hi:P.info? t with
 | none=>rw [hi] at h;cases h
 | some i=>
   rw [hi] at h
   cases hm:i.methods.find? (·.name==name) with
   | none=>simp [hm] at h
   | some m=>
     simp [hm] at h
     obtain ⟨h1,h2⟩:=h
     rw [method]
     simp [go_sem,typeInfo,hi,hm,h1,h2,follow,receiverAt,underlying,hu,Place.get,wrap_run,he,hv]
theorem method_ptr {P:Program} {t e:TypeId} {name:String} {f:FuncId} (n:Nat) (h:(P.info? t).bind (fun i=>(i.methods.find? (·.name==name)).map (fun m=>(m.path.size,m.func)))=some (0,some (f,true))) (hu:P.underlying t=some (.pointer e)) (w:World) (v:Value):Sem.run P (method (n+1) t v name) w = .ok (f,v) w:=by
 cases hi:P.info? t with
 | none=>rw [hi] at h;cases h
 | some i=>
   rw [hi] at h
   cases hm:i.methods.find? (·.name==name) with
   | none=>simp [hm] at h
   | some m=>
     simp [hm] at h
     obtain ⟨h1,h2⟩:=h
     rw [method]
     simp [go_sem,typeInfo,hi,hm,h1,h2,follow,receiverAt,underlying,hu,Place.get]
theorem less_row:(Tryz.prog.info? 111).bind (fun i=>(i.methods.find? (·.name== "Less")).map (fun m=>(m.path.size,m.func)))=some (0,some (116,false)):=by kernel_rfl
theorem swap_row:(Tryz.prog.info? 111).bind (fun i=>(i.methods.find? (·.name== "Swap")).map (fun m=>(m.path.size,m.func)))=some (0,some (117,false)):=by kernel_rfl
theorem len_row:(Tryz.prog.info? 111).bind (fun i=>(i.methods.find? (·.name== "Len")).map (fun m=>(m.path.size,m.func)))=some (0,some (39,false)):=by kernel_rfl
theorem pop_row:(Tryz.prog.info? 111).bind (fun i=>(i.methods.find? (·.name== "Pop")).map (fun m=>(m.path.size,m.func)))=some (0,some (118,true)):=by kernel_rfl
theorem less_method {w:World} {a:Addr} {v:Value} (n:Nat) (h:w.cell? a=some v):Sem.run Tryz.prog (method (n+1) 111 (.pointer (some a)) "Less") w = .ok (116,v) w:=
 method_val n less_row Tryz.underlying111 (fun w=>by kernel_rfl) h
theorem swap_method {w:World} {a:Addr} {v:Value} (n:Nat) (h:w.cell? a=some v):Sem.run Tryz.prog (method (n+1) 111 (.pointer (some a)) "Swap") w = .ok (117,v) w:=
 method_val n swap_row Tryz.underlying111 (fun w=>by kernel_rfl) h
theorem len_method {w:World} {a:Addr} {v:Value} (n:Nat) (h:w.cell? a=some v):Sem.run Tryz.prog (method (n+1) 111 (.pointer (some a)) "Len") w = .ok (39,v) w:=
 method_val n len_row Tryz.underlying111 (fun w=>by kernel_rfl) h
theorem pop_method (w:World) (v:Value) (n:Nat):Sem.run Tryz.prog (method (n+1) 111 v "Pop") w = .ok (118,v) w:=
 method_ptr n pop_row Tryz.underlying111 w v
theorem gn_rd (l:List Int) (k:Nat):rd l (k:Int)=gn l k:=by
 unfold gn
 rfl
theorem less_calls {w:World} {ad:Addr} {n c:Nat} {l:List Int} (h:(Kd.int .i64).C w (some ad) n l) (i j:Nat) (hi:i<n) (hj:j<n):
 Calls Tryz.prog 116 #[.slice (some ad) n c,.int .i64 (i:Int),.int .i64 (j:Int)] w fun e w'=>e = .returned (.bool (decide (gn l i<gn l j)))/\Drawn0 w w':=by
 have hc1:=Kd.foot_int h (i:Int) (by omega) (by omega)
 have hc2:=Kd.foot_int h (j:Int) (by omega) (by omega)
 rw [gn_rd,Int.toNat_natCast] at hc1 hc2
 have q1:(i:Int)<(n:Int):=by omega
 have q2:(j:Int)<(n:Int):=by omega
 clear h
 go_enter Tryz.func116,Tryz.ntmps116
 go_wp2_with fail
 go_quiet (fail)
 go_wp2_with fail
 go_ret
 exact ⟨rfl,⟨_,rfl⟩⟩
abbrev FreeR (w:World) (base:Nat) (v:Value) (l:List Int):Prop:=Kd.R (Kd.int .i64) 3 w base (fun _=>True) v l
theorem FreeR.cell {w:World} {base g n c:Nat} {l:List Int} (h:FreeR w base (.slice (some ⟨g,0,none⟩) n c) l) (i:Nat) (hi:i<n):w.cell? ⟨g,i,none⟩=some (.int .i64 (gn l i))/\w.frozen? ⟨g,i,none⟩=false:=by
 have:=Kd.R_celln (0:Int) h (i:Int) (by omega) (by omega)
 rw [Int.toNat_natCast] at this
 exact this
theorem FreeR.put {w:World} {base g n c:Nat} {l:List Int} (h:FreeR w base (.slice (some ⟨g,0,none⟩) n c) l) (i:Nat) (x:Int):FreeR (w.setCell ⟨g,i,none⟩ (.int .i64 x)) base (.slice (some ⟨g,0,none⟩) n c) (l.set i x):=by
 have:=Kd.R_putn h (i:Int) x
 rw [Int.toNat_natCast] at this
 exact this
theorem FreeR.readsC {w:World} {base n c:Nat} {A:Option Addr} {l:List Int} (h:FreeR w base (.slice A n c) l):(Kd.int .i64).C w A n l:=by
 have h1:=Kd.R_reads' h
 have h2:n=l.length:=h1.1
 rw [h2]
 exact h1.2.2
theorem FreeR.len {w:World} {base n c:Nat} {A:Option Addr} {l:List Int} (h:FreeR w base (.slice A n c) l):n=l.length:=(Kd.R_reads' h).1
structure KB (w w1:World) (g:Nat):Prop where
 k:KeepBut w w1 g none
 b:Below 0 w w1
theorem KB.refl (w:World) (g:Nat):KB w w g:=⟨KeepBut.refl _ _ _,Below.refl _ _⟩
theorem KB.set {w w1:World} {g:Nat} (h:KB w w1 g) (i:Nat) (v:Value):KB w (w1.setCell ⟨g,i,none⟩ v) g:=
 ⟨⟨by rw [World.size_setCell];exact h.k.1,fun k hk hne hr=>(Below.heap_setCell w1 ⟨g,i,none⟩ v k hne).trans (h.k.2 k hk hne hr)⟩,Below.setCell h.b (Nat.zero_le _) v⟩
theorem KB.then_ {w w1 w2:World} {g:Nat} (h:KB w w1 g) (k:KB w1 w2 g):KB w w2 g:=
 ⟨⟨Nat.le_trans h.k.1 k.k.1,fun x hx hne hr=>(k.k.2 x (Nat.lt_of_lt_of_le hx h.k.1) hne hr).trans (h.k.2 x hx hne hr)⟩,h.b.trans k.b⟩
theorem KB.of_below {w w1:World} (h:Below w.heap.size w w1) (g:Nat):KB w w1 g:=⟨KeepBut.of_below h g none,h.mono (Nat.zero_le _)⟩
theorem KB.below {w w1:World} {g base:Nat} (h:KB w w1 g) (h1:base<=w.heap.size) (h2:base<=g):Below base w w1:=
 ⟨h.b.os,h.b.tape,h.b.output,h.k.1,fun k hk=>h.k.2 k (by omega) (by omega) (by simp)⟩
set_option maxHeartbeats 4000000 in
set_option maxRecDepth 100000 in
theorem swap_calls {w:World} {base g n c:Nat} {l:List Int} (hR:FreeR w base (.slice (some ⟨g,0,none⟩) n c) l) (i j:Nat) (hi:i<n) (hj:j<n):
 Calls Tryz.prog 117 #[.slice (some ⟨g,0,none⟩) n c,.int .i64 (i:Int),.int .i64 (j:Int)] w fun e w'=>e = .returned (.tuple #[])/\FreeR w' base (.slice (some ⟨g,0,none⟩) n c) (swapL l i j)/\KB w w' g:=by
 have HR:=z_ hR
 have q1:(i:Int)<(n:Int):=by omega
 have q2:(j:Int)<(n:Int):=by omega
 have HIJ:=z_ (And.intro hi hj)
 clear hR hi hj
 go_enter Tryz.func117,Tryz.ntmps117
 by_cases hij:i=j
 ·subst hij
  obtain ⟨a1,a2⟩:=FreeR.cell HR.out i HIJ.out.1
  obtain ⟨x,hx⟩ : ∃x,x=gn l i:=⟨_,rfl⟩
  rw [<-hx] at a1
  have HX:=z_ hx
  clear hx q2
  go_wp2_with fail
  go_region
  refine bodyPost_end (results_none rfl _ _ _) rfl ?_
  have h1:=FreeR.put (FreeR.put HR.out i x) i x
  have h2:=((KB.refl w g).set i (.int .i64 x)).set i (.int .i64 x)
  have hb:=below_drew (Below.refl (((w.setCell ⟨g,i,none⟩ (.int .i64 x)).setCell ⟨g,i,none⟩ (.int .i64 x)).heap.size) ((w.setCell ⟨g,i,none⟩ (.int .i64 x)).setCell ⟨g,i,none⟩ (.int .i64 x)))
  refine ⟨rfl,?_,h2.then_ (KB.of_below (below_drew (Below.refl _ _)) g)⟩
  unfold swapL
  rw [<-HX.out]
  exact Kd.R_below h1 hb
 ·have hji : ¬j=i:=fun h=>hij h.symm
  obtain ⟨a1,a2⟩:=FreeR.cell HR.out i HIJ.out.1
  obtain ⟨b1,b2⟩:=FreeR.cell HR.out j HIJ.out.2
  obtain ⟨x,hx⟩ : ∃x,x=gn l i:=⟨_,rfl⟩
  obtain ⟨y,hy⟩ : ∃y,y=gn l j:=⟨_,rfl⟩
  rw [<-hx] at a1
  rw [<-hy] at b1
  have HXY:=z_ (And.intro hx hy)
  clear hx hy
  go_wp2_with fail
  go_region
  refine bodyPost_end (results_none rfl _ _ _) rfl ?_
  have h1:=FreeR.put (FreeR.put HR.out i y) j x
  have h2:=((KB.refl w g).set i (.int .i64 y)).set j (.int .i64 x)
  have hb:=below_drew (Below.refl (((w.setCell ⟨g,i,none⟩ (.int .i64 y)).setCell ⟨g,j,none⟩ (.int .i64 x)).heap.size) ((w.setCell ⟨g,i,none⟩ (.int .i64 y)).setCell ⟨g,j,none⟩ (.int .i64 x)))
  refine ⟨rfl,?_,h2.then_ (KB.of_below (below_drew (Below.refl _ _)) g)⟩
  unfold swapL
  rw [<-HXY.out.1,<-HXY.out.2]
  exact Kd.R_below h1 hb
set_option maxHeartbeats 8000000 in
set_option maxRecDepth 100000 in
theorem down_calls {w:World} {p base:Nat} {size room:Int} {vc:Value} {g n c nn:Nat} {l:List Int} (h:ABlk w p size room vc (.slice (some ⟨g,0,none⟩) n c)) (hR:FreeR w base (.slice (some ⟨g,0,none⟩) n c) l) (hnn:nn<=n) (hn:n<=4294967296) (hD:HeapDn nn 0 l):
 Calls Tryz.prog 84 #[.iface 111 (.pointer (some ⟨p,3,none⟩)),.int .i64 0,.int .i64 (nn:Int)] w fun e w'=>(∃b:Bool,e = .returned (.bool b))/\∃l':List Int,FreeR w' base (.slice (some ⟨g,0,none⟩) n c) l'/\HeapN nn l'/\l'.Perm l/\(∀k,nn<=k->gn l' k=gn l k)/\KB w w' g:=by
 have HBk:=z_ h
 have HR:=z_ hR
 have HN:=z_ (And.intro hnn hn)
 have HD:=z_ hD
 have HGP:=z_ (show p≠g from fun e=>by have:=Kd.R_ne hR (e▸h) (by decide);simp [Value.ownBlock] at this)
 clear h hR hn hnn hD
 go_enter Tryz.func84,Tryz.ntmps84
 go_wp2_with fail
 go_loopw [7] (fun v7 wr=>∃(i:Nat) (m:List Int),v7 = .int .i64 (i:Int)/\i<=nn/\Aside0 (ABlk wr p size room vc (.slice (some ⟨g,0,none⟩) n c))/\Aside0 (FreeR wr base (.slice (some ⟨g,0,none⟩) n c) m)/\Aside0 (HeapDn nn i m/\m.Perm l/\(∀k,nn<=k->gn m k=gn l k)/\KB w wr g)) (fun v7 _=>nn-(intOf v7).toNat)
 case atStart=>exact ⟨0,l,rfl,Nat.zero_le _,HBk,HR,⟨HD.out,List.Perm.refl _,fun _ _=>rfl,KB.refl _ _⟩⟩
 case round=>
  clear HBk HR HD
  obtain ⟨i,m,rfl,hi,HBk,HR,HM⟩:=hrel
  obtain ⟨c0,c1,c2,c3⟩:=HBk.out.cells
  have hn:=HN.out.2
  have hnn:=HN.out.1
  by_cases hj:2*(i:Int)+1<(nn:Int)
  case neg=>
   have hjd:decide (2*(i:Int)+1>=(nn:Int))=true:=decide_eq_true (by omega)
   have hjd2:decide ((nn:Int)<=2*(i:Int)+1)=true:=decide_eq_true (by omega)
   have HFIN:=z_ (HM.out.1.stop (fun k h0 hk hp=>by omega))
   clear hj
   go_wp2_with fail
   go_ret
   exact ⟨⟨_,rfl⟩,m,HR.out,HFIN.out,HM.out.2.1,HM.out.2.2.1,HM.out.2.2.2⟩
  obtain ⟨j1,hj1⟩ : ∃j:Nat,2*(i:Int)+1=(j:Int):=⟨2*i+1,by omega⟩
  obtain ⟨j2,hj2⟩ : ∃j:Nat,(j1:Int)+1=(j:Int):=⟨j1+1,by omega⟩
  have hjd:decide ((j1:Int)>=(nn:Int))=false:=decide_eq_false (by omega)
  have hjd2:decide (nn<=j1)=false:=decide_eq_false (by omega)
  have hwj1:wrap64 (j1:Int)=(j1:Int):=by unfold wrap64;omega
  have hwj2:wrap64 (j2:Int)=(j2:Int):=by unfold wrap64;omega
  have hj0:decide ((j1:Int)<0)=false:=decide_eq_false (by omega)
  have HJJ:=z_ (show j1=2*i+1/\j2=2*i+2/\j1<nn/\nn<=n/\(j2<nn->j2<n) from by omega)
  clear hj
  by_cases h2:j2<nn
  ·have h2d:decide ((j2:Int)<(nn:Int))=true:=decide_eq_true (by omega)
   have h2e:decide (j2<nn)=true:=decide_eq_true h2
   replace HJJ:=z_ (And.intro h2 HJJ.out)
   clear h2
   by_cases hc:gn m j2<gn m j1
   ·have hcd:=decide_eq_true hc
    have HJ:=z_ (show 0<j2/\j2<nn/\(j2-1)/2=i/\∀k,0<k->k<nn->(k-1)/2=i->gn m j2<=gn m k from ⟨by have:=HJJ.out;omega,by have:=HJJ.out;omega,by have:=HJJ.out;omega,fun k h0 hk hp=>by
     have h3:=HJJ.out
     obtain rfl|rfl:k=j1\/k=j2:=by omega
     ·omega
     ·omega⟩)
    clear hc
    obtain ⟨c0,c1,c2,c3⟩:=HBk.out.cells
    go_wp2_with ((rw [less_method _ c3];go_upon))
    refine (less_calls (FreeR.readsC HR.out) j2 j1 (by have:=HJJ.out;omega) (by have:=HJJ.out;omega)).mono ?_
    rintro e w2 ⟨rfl,⟨q0,rfl⟩⟩
    have hb2:Below wr.heap.size wr (wr.drewN q0):=pw_below_drewN (Below.refl _ _) _
    replace HBk:=z_ (HBk.out.below hb2)
    replace HR:=z_ (Kd.R_below HR.out hb2)
    replace HM:=z_ (And.intro HM.out.1 (And.intro HM.out.2.1 (And.intro HM.out.2.2.1 (HM.out.2.2.2.then_ (KB.of_below hb2 g)))))
    clear hb2 c0 c1 c2 c3
    generalize hgw:wr.drewN q0=w2 at HBk HR HM ⊢
    clear hgw
    by_cases hl:gn m j2<gn m i
    ·have hld:=decide_eq_true hl
     have HST:=z_ (show HeapDn nn j2 (swapL m i j2) from HM.out.1.step (HJ.out.1) (HJ.out.2.1) (by have:=FreeR.len HR.out;omega) (HJ.out.2.2.1) hl (HJ.out.2.2.2))
     clear hl
     obtain ⟨c0,c1,c2,c3⟩:=HBk.out.cells
     go_wp2_with ((rw [less_method _ c3];go_upon))
     refine (less_calls (FreeR.readsC HR.out) j2 i (by have:=HJ.out;omega) (by have:=HJ.out;omega)).mono ?_
     rintro e WY ⟨rfl,⟨q,rfl⟩⟩
     have hb2:Below w2.heap.size w2 (w2.drewN q):=pw_below_drewN (Below.refl _ _) _
     replace HBk:=z_ (HBk.out.below hb2)
     replace HR:=z_ (Kd.R_below HR.out hb2)
     replace HM:=z_ (And.intro HM.out.1 (And.intro HM.out.2.1 (And.intro HM.out.2.2.1 (HM.out.2.2.2.then_ (KB.of_below hb2 g)))))
     clear hb2 c0 c1 c2 c3
     obtain ⟨c0,c1,c2,c3⟩:=HBk.out.cells
     go_wp2_with ((rw [swap_method _ c3];go_upon))
     refine (swap_calls HR.out i j2 (by have:=HJ.out;omega) (by have:=HJ.out;omega)).mono ?_
     rintro e w3 ⟨rfl,hR3,hK3⟩
     have HB3:=z_ (show ABlk w3 p size room vc (.slice (some ⟨g,0,none⟩) n c) from hK3.k.blk HBk.out (HGP.out) (by simp))
     have HR3:=z_ hR3
     have HK3:=z_ (HM.out.2.2.2.then_ hK3)
     have hlen:=FreeR.len HR.out
     have HP3:=z_ (show (swapL m i j2).Perm l from (swapL_perm (by have:=HJ.out;omega) (by have:=HJ.out;omega)).trans HM.out.2.1)
     have HG3:=z_ (show ∀k,nn<=k->gn (swapL m i j2) k=gn l k from fun k hk=>by
      rw [gn_swap (by have:=HJ.out;omega) (by have:=HJ.out;omega),if_neg (by have:=HJ.out;omega),if_neg (by have:=HJ.out;omega)]
      exact HM.out.2.2.1 k hk)
     clear hR3 hK3 hlen
     go_wp2_with fail
     have hjj:=HJ.out
     go_roundw
     case measure=>simp only [intOf];omega
     case rel=>exact ⟨j2,_,rfl,by omega,HB3,HR3,⟨HST.out,HP3.out,HG3.out,HK3.out⟩⟩
    ·have hld:=decide_eq_false hl
     have HFIN:=z_ (HM.out.1.stop (fun k h0 hk hp=>Int.le_trans (by omega) (HJ.out.2.2.2 k h0 hk hp)))
     clear hl
     obtain ⟨c0,c1,c2,c3⟩:=HBk.out.cells
     go_wp2_with ((rw [less_method _ c3];go_upon))
     refine (less_calls (FreeR.readsC HR.out) j2 i (by have:=HJ.out;omega) (by have:=HJ.out;omega)).mono ?_
     rintro e WY ⟨rfl,⟨q,rfl⟩⟩
     have hb2:Below w2.heap.size w2 (w2.drewN q):=pw_below_drewN (Below.refl _ _) _
     replace HR:=z_ (Kd.R_below HR.out hb2)
     replace HM:=z_ (And.intro HM.out.1 (And.intro HM.out.2.1 (And.intro HM.out.2.2.1 (HM.out.2.2.2.then_ (KB.of_below hb2 g)))))
     clear hb2
     go_wp2_with fail
     go_ret
     exact ⟨⟨_,rfl⟩,m,HR.out,HFIN.out,HM.out.2.1,HM.out.2.2.1,HM.out.2.2.2⟩
   ·have hcd:=decide_eq_false hc
    have HJ:=z_ (show 0<j1/\j1<nn/\(j1-1)/2=i/\∀k,0<k->k<nn->(k-1)/2=i->gn m j1<=gn m k from ⟨by have:=HJJ.out;omega,by have:=HJJ.out;omega,by have:=HJJ.out;omega,fun k h0 hk hp=>by
     have h3:=HJJ.out
     obtain rfl|rfl:k=j1\/k=j2:=by omega
     ·omega
     ·omega⟩)
    clear hc
    obtain ⟨c0,c1,c2,c3⟩:=HBk.out.cells
    go_wp2_with ((rw [less_method _ c3];go_upon))
    refine (less_calls (FreeR.readsC HR.out) j2 j1 (by have:=HJJ.out;omega) (by have:=HJJ.out;omega)).mono ?_
    rintro e w2 ⟨rfl,⟨q0,rfl⟩⟩
    have hb2:Below wr.heap.size wr (wr.drewN q0):=pw_below_drewN (Below.refl _ _) _
    replace HBk:=z_ (HBk.out.below hb2)
    replace HR:=z_ (Kd.R_below HR.out hb2)
    replace HM:=z_ (And.intro HM.out.1 (And.intro HM.out.2.1 (And.intro HM.out.2.2.1 (HM.out.2.2.2.then_ (KB.of_below hb2 g)))))
    clear hb2 c0 c1 c2 c3
    generalize hgw:wr.drewN q0=w2 at HBk HR HM ⊢
    clear hgw
    by_cases hl:gn m j1<gn m i
    ·have hld:=decide_eq_true hl
     have HST:=z_ (show HeapDn nn j1 (swapL m i j1) from HM.out.1.step (HJ.out.1) (HJ.out.2.1) (by have:=FreeR.len HR.out;omega) (HJ.out.2.2.1) hl (HJ.out.2.2.2))
     clear hl
     obtain ⟨c0,c1,c2,c3⟩:=HBk.out.cells
     go_wp2_with ((rw [less_method _ c3];go_upon))
     refine (less_calls (FreeR.readsC HR.out) j1 i (by have:=HJ.out;omega) (by have:=HJ.out;omega)).mono ?_
     rintro e WY ⟨rfl,⟨q,rfl⟩⟩
     have hb2:Below w2.heap.size w2 (w2.drewN q):=pw_below_drewN (Below.refl _ _) _
     replace HBk:=z_ (HBk.out.below hb2)
     replace HR:=z_ (Kd.R_below HR.out hb2)
     replace HM:=z_ (And.intro HM.out.1 (And.intro HM.out.2.1 (And.intro HM.out.2.2.1 (HM.out.2.2.2.then_ (KB.of_below hb2 g)))))
     clear hb2 c0 c1 c2 c3
     obtain ⟨c0,c1,c2,c3⟩:=HBk.out.cells
     go_wp2_with ((rw [swap_method _ c3];go_upon))
     refine (swap_calls HR.out i j1 (by have:=HJ.out;omega) (by have:=HJ.out;omega)).mono ?_
     rintro e w3 ⟨rfl,hR3,hK3⟩
     have HB3:=z_ (show ABlk w3 p size room vc (.slice (some ⟨g,0,none⟩) n c) from hK3.k.blk HBk.out (HGP.out) (by simp))
     have HR3:=z_ hR3
     have HK3:=z_ (HM.out.2.2.2.then_ hK3)
     have hlen:=FreeR.len HR.out
     have HP3:=z_ (show (swapL m i j1).Perm l from (swapL_perm (by have:=HJ.out;omega) (by have:=HJ.out;omega)).trans HM.out.2.1)
     have HG3:=z_ (show ∀k,nn<=k->gn (swapL m i j1) k=gn l k from fun k hk=>by
      rw [gn_swap (by have:=HJ.out;omega) (by have:=HJ.out;omega),if_neg (by have:=HJ.out;omega),if_neg (by have:=HJ.out;omega)]
      exact HM.out.2.2.1 k hk)
     clear hR3 hK3 hlen
     go_wp2_with fail
     have hjj:=HJ.out
     go_roundw
     case measure=>simp only [intOf];omega
     case rel=>exact ⟨j1,_,rfl,by omega,HB3,HR3,⟨HST.out,HP3.out,HG3.out,HK3.out⟩⟩
    ·have hld:=decide_eq_false hl
     have HFIN:=z_ (HM.out.1.stop (fun k h0 hk hp=>Int.le_trans (by omega) (HJ.out.2.2.2 k h0 hk hp)))
     clear hl
     obtain ⟨c0,c1,c2,c3⟩:=HBk.out.cells
     go_wp2_with ((rw [less_method _ c3];go_upon))
     refine (less_calls (FreeR.readsC HR.out) j1 i (by have:=HJ.out;omega) (by have:=HJ.out;omega)).mono ?_
     rintro e WY ⟨rfl,⟨q,rfl⟩⟩
     have hb2:Below w2.heap.size w2 (w2.drewN q):=pw_below_drewN (Below.refl _ _) _
     replace HR:=z_ (Kd.R_below HR.out hb2)
     replace HM:=z_ (And.intro HM.out.1 (And.intro HM.out.2.1 (And.intro HM.out.2.2.1 (HM.out.2.2.2.then_ (KB.of_below hb2 g)))))
     clear hb2
     go_wp2_with fail
     go_ret
     exact ⟨⟨_,rfl⟩,m,HR.out,HFIN.out,HM.out.2.1,HM.out.2.2.1,HM.out.2.2.2⟩
  ·have h2d:decide ((j2:Int)<(nn:Int))=false:=decide_eq_false (by omega)
   have h2e:decide (j2<nn)=false:=decide_eq_false h2
   have HJ:=z_ (show 0<j1/\j1<nn/\(j1-1)/2=i/\∀k,0<k->k<nn->(k-1)/2=i->gn m j1<=gn m k from ⟨by have:=HJJ.out;omega,by have:=HJJ.out;omega,by have:=HJJ.out;omega,fun k h0 hk hp=>by
    have h3:=HJJ.out
    obtain rfl:k=j1:=by omega
    omega⟩)
   clear h2
   by_cases hl:gn m j1<gn m i
   ·have hld:=decide_eq_true hl
    have HST:=z_ (show HeapDn nn j1 (swapL m i j1) from HM.out.1.step (HJ.out.1) (HJ.out.2.1) (by have:=FreeR.len HR.out;omega) (HJ.out.2.2.1) hl (HJ.out.2.2.2))
    clear hl
    obtain ⟨c0,c1,c2,c3⟩:=HBk.out.cells
    go_wp2_with ((rw [less_method _ c3];go_upon))
    refine (less_calls (FreeR.readsC HR.out) j1 i (by have:=HJ.out;omega) (by have:=HJ.out;omega)).mono ?_
    rintro e WY ⟨rfl,⟨q,rfl⟩⟩
    have hb2:Below wr.heap.size wr (wr.drewN q):=pw_below_drewN (Below.refl _ _) _
    replace HBk:=z_ (HBk.out.below hb2)
    replace HR:=z_ (Kd.R_below HR.out hb2)
    replace HM:=z_ (And.intro HM.out.1 (And.intro HM.out.2.1 (And.intro HM.out.2.2.1 (HM.out.2.2.2.then_ (KB.of_below hb2 g)))))
    clear hb2 c0 c1 c2 c3
    obtain ⟨c0,c1,c2,c3⟩:=HBk.out.cells
    go_wp2_with ((rw [swap_method _ c3];go_upon))
    refine (swap_calls HR.out i j1 (by have:=HJ.out;omega) (by have:=HJ.out;omega)).mono ?_
    rintro e w3 ⟨rfl,hR3,hK3⟩
    have HB3:=z_ (show ABlk w3 p size room vc (.slice (some ⟨g,0,none⟩) n c) from hK3.k.blk HBk.out (HGP.out) (by simp))
    have HR3:=z_ hR3
    have HK3:=z_ (HM.out.2.2.2.then_ hK3)
    have hlen:=FreeR.len HR.out
    have HP3:=z_ (show (swapL m i j1).Perm l from (swapL_perm (by have:=HJ.out;omega) (by have:=HJ.out;omega)).trans HM.out.2.1)
    have HG3:=z_ (show ∀k,nn<=k->gn (swapL m i j1) k=gn l k from fun k hk=>by
     rw [gn_swap (by have:=HJ.out;omega) (by have:=HJ.out;omega),if_neg (by have:=HJ.out;omega),if_neg (by have:=HJ.out;omega)]
     exact HM.out.2.2.1 k hk)
    clear hR3 hK3 hlen
    go_wp2_with fail
    have hjj:=HJ.out
    go_roundw
    case measure=>simp only [intOf];omega
    case rel=>exact ⟨j1,_,rfl,by omega,HB3,HR3,⟨HST.out,HP3.out,HG3.out,HK3.out⟩⟩
   ·have hld:=decide_eq_false hl
    have HFIN:=z_ (HM.out.1.stop (fun k h0 hk hp=>Int.le_trans (by omega) (HJ.out.2.2.2 k h0 hk hp)))
    clear hl
    obtain ⟨c0,c1,c2,c3⟩:=HBk.out.cells
    go_wp2_with ((rw [less_method _ c3];go_upon))
    refine (less_calls (FreeR.readsC HR.out) j1 i (by have:=HJ.out;omega) (by have:=HJ.out;omega)).mono ?_
    rintro e WY ⟨rfl,⟨q,rfl⟩⟩
    have hb2:Below wr.heap.size wr (wr.drewN q):=pw_below_drewN (Below.refl _ _) _
    replace HR:=z_ (Kd.R_below HR.out hb2)
    replace HM:=z_ (And.intro HM.out.1 (And.intro HM.out.2.1 (And.intro HM.out.2.2.1 (HM.out.2.2.2.then_ (KB.of_below hb2 g)))))
    clear hb2
    go_wp2_with fail
    go_ret
    exact ⟨⟨_,rfl⟩,m,HR.out,HFIN.out,HM.out.2.1,HM.out.2.2.1,HM.out.2.2.2⟩
end Go.Proofs.YtdeneoknjeegbaaGreatDoor.P
end
