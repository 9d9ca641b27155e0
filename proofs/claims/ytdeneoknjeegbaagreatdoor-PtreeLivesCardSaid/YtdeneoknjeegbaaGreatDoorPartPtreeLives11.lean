/- Lemmas of this claim, part 11. -/
import Derived.Test.YtdeneoknjeegbaaGreatDoorPartPtreeLives10
import Derived.RangeFuncNested
import Derived.RangeFuncLeaves
import Derived.Test.YtdeneoknjeegbaaGreatDoorPartPtreeLives9
import Derived.RangeFuncBound
import Derived.RangeFuncCalls
import Derived.Shelf.Abstract
import Derived.Shelf.RegionOpen
import Derived.WalkKit
import Derived.OwnWalkIn
import Derived.TacticsInMore
import Derived.LoopNIn
import Derived.LoopIn
set_option linter.unusedVariables false
set_option linter.unusedSimpArgs false
section
namespace Go.Proofs.YtdeneoknjeegbaaGreatDoor.P
open Go.RowKit YtdeneoknjeegbaaGreatDoor.Pure YtdeneoknjeegbaaGreatDoorW.PrintWords YtdeneoknjeegbaaGreatDoorW.PrintLast YtdeneoknjeegbaaGreatDoorW.PrintMore
theorem byte_ext (x y:Int) (hx:0<=x/\x<=255) (hy:0<=y/\y<=255) (h : ∀j,j<8->bitX x j=bitX y j):x=y:=by
 rcases Classical.em (x=y) with e|e
 ·exact e
 ·obtain ⟨d,hd,_,_,h3⟩:=byte_part x y hx hy e
  exact absurd (h d hd) h3
theorem bitN_lo (x:Int) (xs:List Int) (i:Nat) (h:i<8):bitN (x :: xs) i=bitX x i:=by
 unfold bitN
 rw [if_pos h]
theorem bitN_hi (x:Int) (xs:List Int) (i:Nat):bitN (x :: xs) (i+8)=bitN xs i:=by
 show (if i+8<8 then _ else bitN xs (i+8-8))=_
 rw [if_neg (by omega),show i+8-8=i by omega]
theorem bitN_valid (l:List Int) (i:Nat):0<=bitN l i↔i<8*l.length:=by
 rw [bitN_at]
 split
 ·have:=(bitX_range (l.getD (i/8) 0) (i%8)).1
  exact ⟨fun _=>by omega,fun _=>this⟩
 ·exact ⟨fun h=>by omega,fun h=>by omega⟩
theorem bitN_le1 (l:List Int) (i:Nat):bitN l i<=1:=by
 rw [bitN_at]
 split
 ·exact (bitX_range _ _).2
 ·omega
theorem bits_begin : ∀(a b:List Int),BytesOk a->BytesOk b->(∀i,i<8*a.length->bitN a i=bitN b i)->a=b.take a.length
 | [],b,_,_,_=>by simp
 | x :: xs,[],ha,hb,h=>by
   have:=h 0 (by simp)
   rw [bitN_lo _ _ _ (by omega)] at this
   have h1:=(bitX_range x 0).1
   simp only [bitN] at this
   omega
 | x :: xs,y :: ys,ha,hb,h=>by
   have hxy:x=y:=byte_ext x y (ha x (by simp)) (hb y (by simp)) (fun j hj=>by
    have:=h j (by simp;omega)
    rwa [bitN_lo _ _ _ hj,bitN_lo _ _ _ hj] at this)
   subst hxy
   have:=bits_begin xs ys (fun z hz=>ha z (List.mem_cons_of_mem _ hz)) (fun z hz=>hb z (List.mem_cons_of_mem _ hz)) (fun i hi=>by
    have:=h (i+8) (by simp;omega)
    rwa [bitN_hi,bitN_hi] at this)
   rw [List.length_cons,List.take_succ_cons,<-this]
theorem bits_ext {a b:List Int} (ha:BytesOk a) (hb:BytesOk b) (hl:a.length=b.length) (h : ∀i,i<8*a.length->bitN a i=bitN b i):a=b:=by
 have:=bits_begin a b ha hb h
 rwa [hl,List.take_length] at this
def IdOk (l:List Int):Prop:=BytesOk l/\l.length<=255
theorem keyB_bytes {l:List Int} (h:IdOk l):BytesOk (keyB l):=by
 intro x hx
 rcases List.mem_cons.1 hx with rfl|hx
 ·omega
 ·exact h.1 x (List.mem_of_mem_take hx)
theorem keyB_eq {l:List Int} (h:IdOk l):keyB l=(l.length:Int) :: l:=by
 unfold keyB
 rw [Nat.min_eq_left h.2,List.take_of_length_le h.2]
theorem keyB_length {l:List Int} (h:IdOk l):(keyB l).length=l.length+1:=by rw [keyB_eq h];rfl
theorem keyB_inj {a b:List Int} (ha:IdOk a) (hb:IdOk b) (h:keyB a=keyB b):a=b:=by
 rw [keyB_eq ha,keyB_eq hb] at h
 exact (List.cons.inj h).2
theorem key_same_len {a b:List Int} (ha:IdOk a) (hb:IdOk b) (h : ∀i,i<8->bitN (keyB a) i=bitN (keyB b) i):a.length=b.length:=by
 rw [keyB_eq ha,keyB_eq hb] at h
 have:=byte_ext (a.length:Int) (b.length:Int) ⟨by have:=ha.2;omega,by have:=ha.2;omega⟩ ⟨by have:=hb.2;omega,by have:=hb.2;omega⟩ (fun j hj=>by
  have:=h j hj
  rwa [bitN_lo _ _ _ hj,bitN_lo _ _ _ hj] at this)
 omega
theorem key_valid {a b:List Int} (ha:IdOk a) (hb:IdOk b) (d:Nat) (h : ∀i,i<d->bitN (keyB a) i=bitN (keyB b) i) (hd:d<8*(keyB b).length):d<8*(keyB a).length:=by
 rw [keyB_length ha]
 rcases Nat.lt_or_ge d 8 with h8|h8
 ·omega
 ·have:=key_same_len ha hb (fun i hi=>h i (by omega))
  rw [keyB_length hb] at hd
  omega
theorem key_part {a b:List Int} (ha:IdOk a) (hb:IdOk b) (hne:a≠b) : ∃m:Nat,bcommon (keyB a) (keyB b)=(m:Int)/\m<8*(keyB a).length/\m<8*(keyB b).length/\(∀i,i<m->bitN (keyB a) i=bitN (keyB b) i)/\bitN (keyB a) m≠bitN (keyB b) m:=by
 have oa:=keyB_bytes ha
 have ob:=keyB_bytes hb
 obtain ⟨m,h1,h2,h3,h4⟩:=bcommon_spec (keyB a) (keyB b) oa ob
 have hall : ∀i,i<m->bitN (keyB a) i=bitN (keyB b) i:=fun i hi=>(h3 i hi).1
 have hv : ∀(a b:List Int),IdOk a->IdOk b->a≠b->(∀i,i<m->bitN (keyB a) i=bitN (keyB b) i)->m<8*(keyB a).length:=by
  intro a b ha hb hne hall
  rcases Nat.lt_or_ge m (8*(keyB a).length) with h|h
  ·exact h
  ·exfalso
   have hl:=key_same_len ha hb (fun i hi=>hall i (by rw [keyB_length ha] at h;omega))
   have:=bits_ext (keyB_bytes ha) (keyB_bytes hb) (by rw [keyB_length ha,keyB_length hb,hl]) (fun i hi=>hall i (by omega))
   exact hne (keyB_inj ha hb this)
 have va:=hv a b ha hb hne hall
 have vb:=hv b a hb ha (Ne.symm hne) (fun i hi=>(hall i hi).symm)
 refine ⟨m,h1,va,vb,hall,?_⟩
 rcases h4 with h4|h4
 ·have:=(bitN_valid (keyB a) m).2 va
  omega
 ·exact h4
theorem firstB_len (l:List Int) (d:Nat) (h1:1<=d) (h2:d<=8*l.length):(firstB l (d:Int)).length=(d-1)/8+1:=by
 unfold firstB firstBits bitBytes
 by_cases h:8*(l.length:Int)<=(d:Int)
 ·rw [if_pos h]
  omega
 ·rw [if_neg h,if_neg (by omega),Int.toNat_natCast]
  split
  ·rw [List.length_take]
   omega
  ·rw [List.length_set,List.length_take]
   omega
theorem firstB_zero (l:List Int):l≠[]->firstB l 0 = []:=by
 intro h
 have:0<l.length:=List.length_pos_iff.2 h
 unfold firstB
 rw [if_neg (by omega),if_pos (by omega)]
theorem cut_off : ∀(o:Fin 8) (x:Fin 256) (j:Fin 8),o.val<=j.val->0<o.val->Go.bits .and .u8 (x.val:Int) (255*2^(8-o.val)%256)/2^(7-j.val)%2=0:=by decide +kernel
theorem bitN_first_off (l:List Int) (hb:BytesOk l) (n:Nat) (h1:1<=n) (hn:n<=8*l.length) (i:Nat) (hi:n<=i) (hi2:i<8*((n-1)/8+1)):bitN (firstB l (n:Int)) i=0:=by
 have hlen:=firstB_len l n h1 hn
 have h0 : ¬n%8=0:=by omega
 rw [bitN_eq _ i (by rw [hlen];omega)]
 unfold firstB
 rw [if_neg (by omega),if_neg (by omega),Int.toNat_natCast]
 unfold firstBits
 rw [if_neg h0]
 have hm:bitBytes n-1=i/8:=by unfold bitBytes;omega
 have htl:(l.take (bitBytes n)).length=bitBytes n:=by rw [List.length_take];unfold bitBytes;omega
 rw [hm,List.getD_eq_getElem?_getD,List.getElem?_set_self (by rw [htl];unfold bitBytes;omega)]
 simp only [Option.getD_some]
 have hx:0<=(l.take (bitBytes n)).getD (i/8) 0/\(l.take (bitBytes n)).getD (i/8) 0<=255:=BytesOk.get (show BytesOk (l.take (bitBytes n)) from fun x hx=>hb x (List.mem_of_mem_take hx)) _
 have hc:=cut_off ⟨n%8,by omega⟩ ⟨((l.take (bitBytes n)).getD (i/8) 0).toNat,by omega⟩ ⟨i%8,by omega⟩ (by simp only;omega) (by simp only;omega)
 simp only [Int.toNat_of_nonneg hx.1] at hc
 unfold cutByte
 rw [show (8-((n%8:Nat):Int)).toNat=8-n%8 by omega]
 exact hc
theorem firstB_congr {a b:List Int} (ha:BytesOk a) (hb:BytesOk b) (na:a≠[]) (nb:b≠[]) (d:Nat) (h1:d<=8*a.length) (h2:d<=8*b.length) (h : ∀i,i<d->bitN a i=bitN b i):firstB a (d:Int)=firstB b (d:Int):=by
 rcases Nat.eq_zero_or_pos d with rfl|hd
 ·rw [show ((0:Nat):Int)=0 from rfl,firstB_zero a na,firstB_zero b nb]
 ·refine bits_ext (firstB_ok a ha _) (firstB_ok b hb _) (by rw [firstB_len a d hd h1,firstB_len b d hd h2]) (fun i hi=>?_)
  rw [firstB_len a d hd h1] at hi
  rcases Nat.lt_or_ge i d with hlt|hge
  ·rw [bitN_first a ha d hd h1 i hlt,bitN_first b hb d hd h2 i hlt]
   exact h i hlt
  ·rw [bitN_first_off a ha d hd h1 i hge hi,bitN_first_off b hb d hd h2 i hge hi]
structure At (d:Nat) (p:List Int) (b:Int) (k:List Int):Prop where
 lt:d<8*k.length
 pre:firstB k (d:Int)=p
 bit:bitN k d=b
theorem begins_at {d:Nat} {p:List Int} {b:Int} {k row:List Int} (h:At d p b k) (hk:BytesOk k) (hr:BytesOk row):beginsB row p (d:Int)=true↔∀i,i<d->bitN row i=bitN k i:=by
 have hp:BytesOk p:=by rw [<-h.pre];exact firstB_ok k hk _
 unfold beginsB
 rcases Nat.eq_zero_or_pos d with rfl|hd
 ·rw [if_pos (by omega)]
  exact ⟨fun _ i hi=>by omega,fun _=>rfl⟩
 rw [if_neg (by omega)]
 have hpl:p.length=(d-1)/8+1:=by rw [<-h.pre];exact firstB_len k d hd (by have:=h.lt;omega)
 have hpb : ∀i,i<d->bitN p i=bitN k i:=fun i hi=>by rw [<-h.pre];exact bitN_first k hk d hd (by have:=h.lt;omega) i hi
 constructor
 ·intro hh i hi
  split at hh
  ·have:=(common_ge hr hp d).1 (of_decide_eq_true hh) i hi
   rw [this.1,hpb i hi]
  ·cases hh
 ·intro hh
  have hv:d<=8*row.length:=by
   have h1:=hh (d-1) (by omega)
   have h2:=(bitN_valid k (d-1)).2 (by have:=h.lt;omega)
   have h3:=(bitN_valid row (d-1)).1 (by omega)
   omega
  rw [if_pos (by omega)]
  refine decide_eq_true ((common_ge hr hp d).2 (fun i hi=>⟨?_,?_⟩))
  ·rw [hh i hi,hpb i hi]
  ·rw [hh i hi]
   exact (bitN_valid k i).2 (by have:=h.lt;omega)
def Ext (cs cs':Cs):Prop:=∀i n,nodeAt cs i=some n->nodeAt cs' i=some n
theorem Ext.refl (cs:Cs):Ext cs cs:=fun _ _ h=>h
theorem Ext.trans {a b c:Cs} (h:Ext a b) (k:Ext b c):Ext a c:=fun i n hn=>k i n (h i n hn)
theorem nodeAt_nat (cs:Cs) (k:Nat):nodeAt cs (k:Int)=(cs[k]?).join:=by
 unfold nodeAt
 rw [if_pos (by omega),Int.toNat_natCast]
theorem nodeAt_put (cs:Cs) (n:Nd):nodeAt (putC cs n) (lowN cs:Int)=some n:=by
 rw [nodeAt_nat]
 unfold putC
 split
 ·rename_i h
  rw [List.getElem?_set_self h]
  rfl
 ·have h1:=lowN_le cs
  rw [List.getElem?_append_right (by omega),show lowN cs-cs.length=0 by omega]
  rfl
theorem nodeAt_neg (cs:Cs) (i:Int) (h:i<0):nodeAt cs i=none:=by
 unfold nodeAt
 rw [if_neg (by omega)]
theorem ext_put (cs:Cs) (n:Nd):Ext cs (putC cs n):=fun i m h=>by
 rcases Int.lt_or_le i 0 with hi|hi
 ·rw [nodeAt_neg cs i hi] at h
  cases h
 obtain ⟨k,rfl⟩:=Int.eq_ofNat_of_zero_le hi
 rw [nodeAt_nat] at h ⊢
 have hk:cs[k]? = some (some m):=by
  cases hc:cs[k]? with
  | none=>rw [hc] at h;cases h
  | some o=>rw [hc] at h;exact congrArg some h
 have hlt:k<cs.length:=(List.getElem?_eq_some_iff.1 hk).1
 unfold putC
 split
 ·rename_i hlow
  have hne:lowN cs≠k:=fun e=>by
   have:=lowN_none cs hlow
   rw [e,hk] at this
   cases this
  rw [List.getElem?_set_ne hne,hk]
  rfl
 ·rw [List.getElem?_append_left hlt,hk]
  rfl
theorem IsT.ext {cs cs':Cs} (h:Ext cs cs') : ∀ {t:PT} {i:Int},IsT cs i t->IsT cs' i t
 | .leaf n,i,k=>⟨h _ _ k.1,k.2⟩
 | .fork n l r,i,k=>⟨h _ _ k.1,k.2.1,IsT.ext h k.2.2.1,IsT.ext h k.2.2.2⟩
def PT.node:PT->Nd
 | .leaf n=>n
 | .fork n _ _=>n
theorem IsT.at {cs:Cs} {i:Int} {t:PT} (h:IsT cs i t):nodeAt cs i=some t.node:=by
 cases t with
 | leaf n=>exact h.1
 | fork n l r=>exact h.1
structure Lf where
 id:List Int
 key:List Int
 since:Int
def lfOf (n:Nd):Lf:=⟨n.f1,n.f2,n.f3⟩
def PT.leaves:PT->List Lf
 | .leaf n=>[lfOf n]
 | .fork _ l r=>l.leaves++r.leaves
def LfOk (x:Lf):Prop:=IdOk x.id/\BytesOk x.key/\x.key.length<=65535/\0<=x.since
def Good (size:Int):PT->Prop
 | .leaf n=>n=leafNd size n.f1 n.f2 n.f3/\LfOk (lfOf n)
 | .fork n l r=>n=forkNd size n.f4 n.f5 n.f7 n.f8 l.node r.node/\Good size l/\Good size r/\∃d:Nat,n.f4=(d:Int)/\(∀x∈l.leaves,At d n.f5 0 (keyB x.id))/\(∀x∈r.leaves,At d n.f5 1 (keyB x.id))
theorem PT.leaves_ne : ∀t:PT,∃x,x∈t.leaves
 | .leaf n=>⟨lfOf n,by simp [PT.leaves]⟩
 | .fork n l r=>by
   obtain ⟨x,hx⟩:=PT.leaves_ne l
   exact ⟨x,List.mem_append_left _ hx⟩
theorem Good.leaf_ok {size:Int} : ∀ {t:PT},Good size t->∀x∈t.leaves,LfOk x
 | .leaf n,h,x,hx=>by
   obtain rfl:x=lfOf n:=by simpa [PT.leaves] using hx
   exact h.2
 | .fork n l r,h,x,hx=>by
   rcases List.mem_append.1 hx with hx|hx
   ·exact Good.leaf_ok h.2.1 x hx
   ·exact Good.leaf_ok h.2.2.1 x hx
theorem Good.low {size:Int} {n:Nd} {l r:PT} (h:Good size (.fork n l r)) (m:Nat) (b:Nat->Int) (hm : ∀x∈(PT.fork n l r).leaves,∀i,i<m->bitN (keyB x.id) i=b i):(m:Int)<=n.f4:=by
 obtain ⟨_,hl,hr,d,hd,h0,h1⟩:=h
 obtain ⟨x,hx⟩:=l.leaves_ne
 obtain ⟨y,hy⟩:=r.leaves_ne
 have ax:=(h0 x hx).bit
 have ay:=(h1 y hy).bit
 rcases Nat.lt_or_ge d m with hlt|hge
 ·have e1:=hm x (List.mem_append_left _ hx) d hlt
  have e2:=hm y (List.mem_append_right _ hy) d hlt
  omega
 ·omega
theorem At.bitsOf {d:Nat} {p:List Int} {b:Int} {k:List Int} (h:At d p b k) (hk:BytesOk k) (i:Nat) (hi:i<d):bitN k i=bitN p i:=by
 rw [<-h.pre]
 exact (bitN_first k hk d (by omega) (by have:=h.lt;omega) i hi).symm
theorem Good.fork_at {size:Int} {n:Nd} {l r:PT} (h:Good size (.fork n l r)) : ∃d:Nat,n.f4=(d:Int)/\∀x∈(PT.fork n l r).leaves,∃b,At d n.f5 b (keyB x.id)/\(b=0\/b=1):=by
 obtain ⟨_,hl,hr,d,hd,h0,h1⟩:=h
 refine ⟨d,hd,fun x hx=>?_⟩
 rcases List.mem_append.1 hx with hx|hx
 ·exact ⟨0,h0 x hx,.inl rfl⟩
 ·exact ⟨1,h1 x hx,.inr rfl⟩
theorem Good.kid_low {size:Int} {n:Nd} {l r:PT} (h:Good size (.fork n l r)) (d:Nat) (hd:n.f4=(d:Int)) (t:PT) (ht:t=l\/t=r) : ∀m l' r',t = .fork m l' r'->(d:Int)+1<=m.f4:=by
 rintro m l' r' rfl
 obtain ⟨_,hl,hr,d',hd',h0,h1⟩:=h
 obtain rfl:d'=d:=by omega
 have key : ∀b:Int,Good size (.fork m l' r')->(∀x∈(PT.fork m l' r').leaves,At d' n.f5 b (keyB x.id))->(d':Int)+1<=m.f4:=fun b hg ha=>by
  have:=hg.low (d'+1) (fun i=>if i<d' then bitN n.f5 i else b) (fun x hx i hi=>by
   have hx':=ha x hx
   have hb:=keyB_bytes (hg.leaf_ok x hx).1
   split
   ·exact hx'.bitsOf hb i (by assumption)
   ·obtain rfl:i=d':=by omega
    exact hx'.bit)
  omega
 rcases ht with e|e
 ·subst e
  exact key 0 hl h0
 ·subst e
  exact key 1 hr h1
theorem Good.begins {size:Int} {n:Nd} {l r:PT} (h:Good size (.fork n l r)) {id:List Int} (hid:IdOk id) (hb:beginsB (keyB id) n.f5 n.f4=true) (d:Nat) (hd:n.f4=(d:Int)):d<8*(keyB id).length/\(∀x∈(PT.fork n l r).leaves,∀i,i<d->bitN (keyB id) i=bitN (keyB x.id) i):=by
 obtain ⟨d',hd',hat⟩:=h.fork_at
 obtain rfl:d'=d:=by omega
 have hall : ∀x∈(PT.fork n l r).leaves,∀i,i<d'->bitN (keyB id) i=bitN (keyB x.id) i:=fun x hx=>by
  obtain ⟨b,ha,_⟩:=hat x hx
  rw [hd] at hb
  exact (begins_at ha (keyB_bytes (h.leaf_ok x hx).1) (keyB_bytes hid)).1 hb
 obtain ⟨x,hx⟩:=(PT.fork n l r).leaves_ne
 obtain ⟨b,ha,_⟩:=hat x hx
 exact ⟨key_valid hid (h.leaf_ok x hx).1 d' (hall x hx) ha.lt,hall⟩
theorem Good.way_len {size:Int} {id:List Int} (hid:IdOk id) : ∀(t:PT) (i:Int) (D:Nat),Good size t->(∀m l' r',t = .fork m l' r'->(D:Int)<=m.f4)->D<=8*(keyB id).length->(wayT (keyB id) i t).1.length+D<=8*(keyB id).length
 | .leaf n,i,D,h,hD,hl=>by
   show 0+D<=_
   omega
 | .fork n l r,i,D,h,hD,hl=>by
   unfold wayT
   by_cases hb:beginsB (keyB id) n.f5 n.f4=true
   ·rw [if_pos hb]
    have h':=h
    obtain ⟨_,hgl,hgr,d,hd,h0,h1⟩:=h'
    have hv:=(h.begins hid hb d hd).1
    have hDd:=hD n l r rfl
    by_cases hbit:bitP (keyB id) n.f4=1
    ·rw [if_pos hbit]
     have:=Good.way_len hid r n.f8 (d+1) hgr (h.kid_low d hd r (.inr rfl)) (by omega)
     simp only [List.length_cons]
     omega
    ·rw [if_neg hbit]
     have:=Good.way_len hid l n.f7 (d+1) hgl (h.kid_low d hd l (.inl rfl)) (by omega)
     simp only [List.length_cons]
     omega
   ·rw [if_neg hb]
    show 0+D<=_
    omega
def sideL (row:List Int) (n:Nd) (now:Int):Int:=if bitP row n.f4=1 then n.f7 else now
def sideR (row:List Int) (n:Nd) (now:Int):Int:=if bitP row n.f4=1 then now else n.f8
def putF (size:Int) (row:List Int) (cs:Cs) (now:Int) (n:Nd):Cs:=putC cs (forkOf size cs n.f4 n.f5 (sideL row n now) (sideR row n now))
def insF (size:Int) (row:List Int):List Nd->Cs->Int->Cs×Int
 | [],cs,now=>(cs,now)
 | n :: fs,cs,now=>insF size row fs (putF size row cs now n) (lowN cs:Int)
def okF (size room:Int) (row:List Int):List Nd->Cs->Int->Prop
 | [],_,_=>True
 | n :: fs,cs,now=>(¬forkBad cs n.f4 n.f5 (sideL row n now) (sideR row n now)/\(usedN cs:Int)≠room)/\okF size room row fs (putF size row cs now n) (lowN cs:Int)
theorem insF_append (size:Int) (row:List Int) : ∀(fs gs:List Nd) (cs:Cs) (now:Int),insF size row (fs++gs) cs now=insF size row gs (insF size row fs cs now).1 (insF size row fs cs now).2
 | [],gs,cs,now=>rfl
 | n :: fs,gs,cs,now=>insF_append size row fs gs _ _
theorem okF_append (size room:Int) (row:List Int) : ∀(fs gs:List Nd) (cs:Cs) (now:Int),okF size room row fs cs now->okF size room row gs (insF size row fs cs now).1 (insF size row fs cs now).2->okF size room row (fs++gs) cs now
 | [],gs,cs,now,_,h=>h
 | n :: fs,gs,cs,now,h,k=>⟨h.1,okF_append size room row fs gs _ _ h.2 k⟩
def SpotOk (row id:List Int) (S:PT) (same:Bool):Prop:=(∃n,S = .leaf n/\same=decide (n.f1=id))\/(∃n l r,S = .fork n l r/\same=false/\beginsB row n.f5 n.f4=false)
theorem forkOf_some {cs:Cs} {l r:Int} {nl nr:Nd} (size depth:Int) (p:List Int) (hl:nodeAt cs l=some nl) (hr:nodeAt cs r=some nr):forkOf size cs depth p l r=forkNd size depth p l r nl nr:=by
 unfold forkOf
 rw [hl,hr]
theorem Good.pre_len {size:Int} {n:Nd} {l r:PT} (h:Good size (.fork n l r)):0<=n.f4/\n.f4<=8*(n.f5.length:Int)/\n.f5.length<=256/\BytesOk n.f5:=by
 obtain ⟨d,hd,hat⟩:=h.fork_at
 obtain ⟨x,hx⟩:=(PT.fork n l r).leaves_ne
 obtain ⟨b,ha,_⟩:=hat x hx
 have hk:=(h.leaf_ok x hx).1
 have h1:=firstB_length (keyB x.id) (d:Int)
 rw [ha.pre,keyB_length hk] at h1
 have h2:=hk.2
 refine ⟨by omega,?_,by omega,by rw [<-ha.pre];exact firstB_ok _ (keyB_bytes hk) _⟩
 rcases Nat.eq_zero_or_pos d with e|e
 ·omega
 ·have:=firstB_len (keyB x.id) d e (by have:=ha.lt;omega)
  rw [ha.pre] at this
  omega
theorem Good.pre_eq {size:Int} {n:Nd} {l r:PT} (h:Good size (.fork n l r)):firstB n.f5 n.f4=n.f5:=by
 have:=congrArg (fun m:Nd=>m.f5) h.1
 exact this.symm
theorem fork_tree {size:Int} {cs:Cs} {d:Nat} {p:List Int} {l r:Int} {tl tr:PT} (hp:BytesOk p) (hl:IsT cs l tl) (hr:IsT cs r tr) (gl:Good size tl) (gr:Good size tr) (h0 : ∀x∈tl.leaves,At d (firstB p (d:Int)) 0 (keyB x.id)) (h1 : ∀x∈tr.leaves,At d (firstB p (d:Int)) 1 (keyB x.id)):
 ∃n,IsT (putC cs (forkOf size cs (d:Int) p l r)) (lowN cs:Int) (.fork n tl tr)/\Good size (.fork n tl tr):=by
 have e:=forkOf_some size (d:Int) p hl.at hr.at
 refine ⟨forkOf size cs (d:Int) p l r,⟨nodeAt_put _ _,by rw [e];rfl,?_,?_⟩,?_⟩
 ·rw [show (forkOf size cs (d:Int) p l r).f7=l by rw [e];rfl]
  exact hl.ext (ext_put _ _)
 ·rw [show (forkOf size cs (d:Int) p l r).f8=r by rw [e];rfl]
  exact hr.ext (ext_put _ _)
 ·rw [e]
  refine ⟨?_,gl,gr,d,rfl,h0,h1⟩
  show forkNd size (d:Int) p l r tl.node tr.node=forkNd size (d:Int) (firstB p (d:Int)) l r tl.node tr.node
  unfold forkNd
  rw [firstB_idem p hp (d:Int),firstB_idem p hp (d:Int)]
theorem Good.row_at {size:Int} {n:Nd} {l r:PT} (h:Good size (.fork n l r)) {id:List Int} (hid:IdOk id) (hb:beginsB (keyB id) n.f5 n.f4=true) (d:Nat) (hd:n.f4=(d:Int)):At d n.f5 (if bitP (keyB id) n.f4=1 then 1 else 0) (keyB id):=by
 obtain ⟨hlt,hall⟩:=h.begins hid hb d hd
 obtain ⟨d',hd',hat⟩:=h.fork_at
 obtain rfl:d'=d:=by omega
 obtain ⟨x,hx⟩:=(PT.fork n l r).leaves_ne
 obtain ⟨b,ha,_⟩:=hat x hx
 have hk:=(h.leaf_ok x hx).1
 refine ⟨hlt,?_,?_⟩
 ·rw [<-ha.pre]
  exact firstB_congr (keyB_bytes hid) (keyB_bytes hk) (by unfold keyB;simp) (by unfold keyB;simp) d' (by omega) (by have:=ha.lt;omega) (hall x hx)
 ·rw [hd,bitP_eq _ (keyB_bytes hid)]
  have h1:=(bitN_valid (keyB id) d').2 hlt
  have h2:=bitN_le1 (keyB id) d'
  split<;>omega
theorem At.other {d:Nat} {p:List Int} {k:List Int} {a b:Int} (h:At d p a k) (g:At d p b k):a=b:=h.bit.symm.trans g.bit
theorem ins_down {size:Int} {cs:Cs} {id:List Int} (hid:IdOk id) : ∀(t:PT) (i:Int),IsT cs i t->Good size t->
 ∃S A B,IsT cs (findT (keyB id) id i t).at_ S/\Good size S/\S.node=(findT (keyB id) id i t).node/\SpotOk (keyB id) id S (findT (keyB id) id i t).same/\t.leaves=A++S.leaves++B/\(∀x∈A++B,x.id≠id)/\
  ∀(room:Int) (cs1:Cs) (now1:Int) (t1:PT),Ext cs cs1->IsT cs1 now1 t1->Good size t1->(∀x∈t1.leaves,x.id=id\/x∈S.leaves)->(usedN cs1:Int)+(findT (keyB id) id i t).forks.length<=room->
   okF size room (keyB id) (findT (keyB id) id i t).forks.reverse cs1 now1/\∃t',IsT (insF size (keyB id) (findT (keyB id) id i t).forks.reverse cs1 now1).1 (insF size (keyB id) (findT (keyB id) id i t).forks.reverse cs1 now1).2 t'/\Good size t'/\
    Ext cs1 (insF size (keyB id) (findT (keyB id) id i t).forks.reverse cs1 now1).1/\usedN (insF size (keyB id) (findT (keyB id) id i t).forks.reverse cs1 now1).1=usedN cs1+(findT (keyB id) id i t).forks.length/\t'.leaves=A++t1.leaves++B
 | .leaf n,i,h,g=>by
   refine ⟨.leaf n,[],[],h,g,rfl,.inl ⟨n,rfl,rfl⟩,by simp,by simp,?_⟩
   intro room cs1 now1 t1 he h1 g1 hx hr
   exact ⟨trivial,t1,h1,g1,Ext.refl _,rfl,by simp⟩
 | .fork n l r,i,h,g=>by
   by_cases hb:beginsB (keyB id) n.f5 n.f4=true
   ·have g':=g
    obtain ⟨hn,hgl,hgr,d,hd,h0,h1⟩:=g'
    have hrow:=g.row_at hid hb d hd
    have hpl:=g.pre_len
    by_cases hbit:bitP (keyB id) n.f4=1
    ·rw [if_pos hbit] at hrow
     have hf:findT (keyB id) id i (.fork n l r)=(findT (keyB id) id n.f8 r).cons n:=by
      show (if beginsB (keyB id) n.f5 n.f4 then (if bitP (keyB id) n.f4=1 then _ else _) else _)=_
      rw [if_pos hb,if_pos hbit]
     rw [hf]
     obtain ⟨S,A,B,e1,e2,e3,e4,e5,e6,e7⟩:=ins_down hid r n.f8 h.2.2.2 hgr
     refine ⟨S,l.leaves++A,B,e1,e2,e3,e4,?_,?_,?_⟩
     ·show l.leaves++r.leaves=_
      rw [e5]
      simp [List.append_assoc]
     ·intro x hx
      rw [List.append_assoc] at hx
      rcases List.mem_append.1 hx with hx|hx
      ·rintro rfl
       have:=(h0 x hx).other hrow
       omega
      ·exact e6 x hx
     ·intro room cs1 now1 t1 he k1 g1 hx hr
      have hlen:(((findT (keyB id) id n.f8 r).cons n).forks.length:Int)=(findT (keyB id) id n.f8 r).forks.length+1:=by
       show (((n :: (findT (keyB id) id n.f8 r).forks).length:Nat):Int)=_
       rw [List.length_cons]
       omega
      rw [hlen] at hr
      obtain ⟨o1,t2,i2,g2,x2,u2,l2⟩:=e7 room cs1 now1 t1 he k1 g1 hx (by omega)
      have hrev:((findT (keyB id) id n.f8 r).cons n).forks.reverse=(findT (keyB id) id n.f8 r).forks.reverse++[n]:=by
       show (n :: _).reverse=_
       rw [List.reverse_cons]
      rw [hrev,insF_append]
      obtain ⟨cs2,hcs2⟩ : ∃c,c=(insF size (keyB id) (findT (keyB id) id n.f8 r).forks.reverse cs1 now1).1:=⟨_,rfl⟩
      obtain ⟨now2,hnow2⟩ : ∃c,c=(insF size (keyB id) (findT (keyB id) id n.f8 r).forks.reverse cs1 now1).2:=⟨_,rfl⟩
      rw [<-hcs2] at x2 u2
      rw [<-hcs2,<-hnow2] at i2
      rw [<-hcs2,<-hnow2]
      have il:IsT cs2 n.f7 l:=h.2.2.1.ext (he.trans x2)
      have hsl:sideL (keyB id) n now2=n.f7:=by unfold sideL;rw [if_pos hbit]
      have hsr:sideR (keyB id) n now2=now2:=by unfold sideR;rw [if_pos hbit]
      have hbad : ¬forkBad cs2 n.f4 n.f5 (sideL (keyB id) n now2) (sideR (keyB id) n now2):=by
       rw [hsl,hsr]
       rintro (k|k|k|k|k)
       ·omega
       ·omega
       ·omega
       ·rw [il.at] at k;cases k
       ·rw [i2.at] at k;cases k
      have hleaf : ∀x∈t2.leaves,At d n.f5 1 (keyB x.id):=fun x hx2=>by
       rw [l2,List.append_assoc] at hx2
       rcases List.mem_append.1 hx2 with hx2|hx2
       ·exact h1 x (by rw [e5];simp [hx2])
       ·rcases List.mem_append.1 hx2 with hx2|hx2
        ·rcases hx x hx2 with e|e
         ·rw [e];exact hrow
         ·exact h1 x (by rw [e5];simp [e])
        ·exact h1 x (by rw [e5];simp [hx2])
      have hpe:=g.pre_eq
      rw [hd] at hpe
      obtain ⟨m,im,gm⟩:=fork_tree (size:=size) (cs:=cs2) (d:=d) (p:=n.f5) (l:=n.f7) (r:=now2) hpl.2.2.2 il i2 hgl g2 (by rw [hpe];exact h0) (by rw [hpe];exact hleaf)
      have hpf:putF size (keyB id) cs2 now2 n=putC cs2 (forkOf size cs2 (d:Int) n.f5 n.f7 now2):=by unfold putF;rw [hsl,hsr,hd]
      refine ⟨okF_append _ _ _ _ _ _ _ o1 ?_,.fork m l t2,?_,gm,?_,?_,?_⟩
      ·rw [<-hcs2,<-hnow2]
       exact ⟨⟨hbad,by omega⟩,trivial⟩
      ·show IsT (putF size (keyB id) cs2 now2 n) (lowN cs2:Int) _
       rw [hpf]
       exact im
      ·show Ext cs1 (putF size (keyB id) cs2 now2 n)
       exact x2.trans (ext_put _ _)
      ·show usedN (putF size (keyB id) cs2 now2 n)=_
       unfold putF
       rw [putC_used]
       omega
      ·show l.leaves++t2.leaves=_
       rw [l2]
       simp [List.append_assoc]
    ·rw [if_neg hbit] at hrow
     have hf:findT (keyB id) id i (.fork n l r)=(findT (keyB id) id n.f7 l).cons n:=by
      show (if beginsB (keyB id) n.f5 n.f4 then (if bitP (keyB id) n.f4=1 then _ else _) else _)=_
      rw [if_pos hb,if_neg hbit]
     rw [hf]
     obtain ⟨S,A,B,e1,e2,e3,e4,e5,e6,e7⟩:=ins_down hid l n.f7 h.2.2.1 hgl
     refine ⟨S,A,B++r.leaves,e1,e2,e3,e4,?_,?_,?_⟩
     ·show l.leaves++r.leaves=_
      rw [e5]
      simp [List.append_assoc]
     ·intro x hx
      rw [<-List.append_assoc] at hx
      rcases List.mem_append.1 hx with hx|hx
      ·exact e6 x hx
      ·rintro rfl
       have:=(h1 x hx).other hrow
       omega
     ·intro room cs1 now1 t1 he k1 g1 hx hr
      have hlen:(((findT (keyB id) id n.f7 l).cons n).forks.length:Int)=(findT (keyB id) id n.f7 l).forks.length+1:=by
       show (((n :: (findT (keyB id) id n.f7 l).forks).length:Nat):Int)=_
       rw [List.length_cons]
       omega
      rw [hlen] at hr
      obtain ⟨o1,t2,i2,g2,x2,u2,l2⟩:=e7 room cs1 now1 t1 he k1 g1 hx (by omega)
      have hrev:((findT (keyB id) id n.f7 l).cons n).forks.reverse=(findT (keyB id) id n.f7 l).forks.reverse++[n]:=by
       show (n :: _).reverse=_
       rw [List.reverse_cons]
      rw [hrev,insF_append]
      obtain ⟨cs2,hcs2⟩ : ∃c,c=(insF size (keyB id) (findT (keyB id) id n.f7 l).forks.reverse cs1 now1).1:=⟨_,rfl⟩
      obtain ⟨now2,hnow2⟩ : ∃c,c=(insF size (keyB id) (findT (keyB id) id n.f7 l).forks.reverse cs1 now1).2:=⟨_,rfl⟩
      rw [<-hcs2] at x2 u2
      rw [<-hcs2,<-hnow2] at i2
      rw [<-hcs2,<-hnow2]
      have ir:IsT cs2 n.f8 r:=h.2.2.2.ext (he.trans x2)
      have hsl:sideL (keyB id) n now2=now2:=by unfold sideL;rw [if_neg hbit]
      have hsr:sideR (keyB id) n now2=n.f8:=by unfold sideR;rw [if_neg hbit]
      have hbad : ¬forkBad cs2 n.f4 n.f5 (sideL (keyB id) n now2) (sideR (keyB id) n now2):=by
       rw [hsl,hsr]
       rintro (k|k|k|k|k)
       ·omega
       ·omega
       ·omega
       ·rw [i2.at] at k;cases k
       ·rw [ir.at] at k;cases k
      have hleaf : ∀x∈t2.leaves,At d n.f5 0 (keyB x.id):=fun x hx2=>by
       rw [l2,List.append_assoc] at hx2
       rcases List.mem_append.1 hx2 with hx2|hx2
       ·exact h0 x (by rw [e5];simp [hx2])
       ·rcases List.mem_append.1 hx2 with hx2|hx2
        ·rcases hx x hx2 with e|e
         ·rw [e];exact hrow
         ·exact h0 x (by rw [e5];simp [e])
        ·exact h0 x (by rw [e5];simp [hx2])
      have hpe:=g.pre_eq
      rw [hd] at hpe
      obtain ⟨m,im,gm⟩:=fork_tree (size:=size) (cs:=cs2) (d:=d) (p:=n.f5) (l:=now2) (r:=n.f8) hpl.2.2.2 i2 ir g2 hgr (by rw [hpe];exact hleaf) (by rw [hpe];exact h1)
      have hpf:putF size (keyB id) cs2 now2 n=putC cs2 (forkOf size cs2 (d:Int) n.f5 now2 n.f8):=by unfold putF;rw [hsl,hsr,hd]
      refine ⟨okF_append _ _ _ _ _ _ _ o1 ?_,.fork m t2 r,?_,gm,?_,?_,?_⟩
      ·rw [<-hcs2,<-hnow2]
       exact ⟨⟨hbad,by omega⟩,trivial⟩
      ·show IsT (putF size (keyB id) cs2 now2 n) (lowN cs2:Int) _
       rw [hpf]
       exact im
      ·show Ext cs1 (putF size (keyB id) cs2 now2 n)
       exact x2.trans (ext_put _ _)
      ·show usedN (putF size (keyB id) cs2 now2 n)=_
       unfold putF
       rw [putC_used]
       omega
      ·show t2.leaves++r.leaves=_
       rw [l2]
       simp [List.append_assoc]
   ·have hf:findT (keyB id) id i (.fork n l r)=⟨[],i,n,false⟩:=by
     show (if beginsB (keyB id) n.f5 n.f4 then _ else _)=_
     rw [if_neg hb]
    rw [hf]
    refine ⟨.fork n l r,[],[],h,g,rfl,.inr ⟨n,l,r,rfl,rfl,by simpa using hb⟩,by simp,by simp,?_⟩
    intro room cs1 now1 t1 he h1 g1 hx hr
    exact ⟨trivial,t1,h1,g1,Ext.refl _,rfl,by simp⟩
end Go.Proofs.YtdeneoknjeegbaaGreatDoor.P
end
section
namespace Go.Proofs.YtdeneoknjeegbaaGreatDoor.P
open Go Go.RowKit
variable {F:Fence} {n:Nat} {P:Program}
def KeptTwo (b:Nat) (W W':World):Prop:=∀k,k=b\/k=b+1->W'.heap[k]? = W.heap[k]?
def roundEnd {α:Type} (b:Nat) (I:List α->World->Prop) (pre:List α) (W:World):Exit->Act->World->Prop
 | .normal,_,W'=>KeptTwo b W W'/\I pre W'
 | _,_,_=>False
def Gives {α:Type} (F:Fence) (n:Nat) (P:Program) (gf:Nat) (lb:Array Value) (encs:α->Array Value) (xs:List α) (Kc:World->Prop):Prop:=
 ∀(l:Nat) (J:List α->World->Prop) (W:World),(∀pre W,J pre W->Kc W)->(∀pre W W',J pre W->Below W.heap.size W W'->J pre W')->
  (∀pre x W,J pre W->pre++[x] <+: xs->YieldAt F (n-1) P l (encs x) W fun e W'=>e = .returned (.bool true)/\J (pre++[x]) W')->
  J [] W->CallsIn F n P gf (#[.func (.yield l) #[] #[]]++lb) W fun e W'=>(∃v,e = .returned v)/\J xs W'
theorem forEach {α:Type} {g:Operand} {ps:Array Tmp} {assign body:Code} {Q:Exit->Act->World->Prop} {a:Act} {w:World}
 (hro:F.round=none) (h1:1<=n) {gf:Nat} {lb:Array Value} (hg:a.eval g = .func (.func gf) #[] lb) (hF:F.fn gf) (eg : ∀args w,(callFunc gf args).run P w = .ok (.enter gf args) w)
 {encs:α->Array Value} {xs:List α} {Kc:World->Prop} (hseq:Gives F (n-1) P gf lb encs xs Kc) (hps : ∀x,(encs x).size=ps.size)
 (I:List α->World->Prop) (hK : ∀pre W,I pre W->Kc W) (hB : ∀pre W W',I pre W->Below W.heap.size W W'->I pre W')
 (hT : ∀pre W (o:Obj),w.heap.size+1<W.heap.size->I pre W->I pre (W.putObj (w.heap.size+1) o)) (h0:I [] w)
 (hbody : ∀(l:Nat) (pre:List α) (x:α) (W:World),l=w.heap.size+1->w.heap.size+1<W.heap.size->I pre W->pre++[x] <+: xs->
  assign.wpIn (F.inRound l) (n-1-1) P (Exit.then (fun a₁ W₁ => KeptTwo w.heap.size W W₁ /\ I pre W₁ /\ ∀o,body.wpIn (F.inRound l) (n-1-1) P (roundEnd w.heap.size I (pre++[x]) (W₁.putObj l o)) a₁ (W₁.putObj l o)) (fun _ _ _=>False))
   { tmps:=(ps.zip (encs x)).foldl (fun t (p,v)=>t.setIfInBounds p v) a.tmps,defers:=[] } W)
 (hdone : ∀(W:World),I xs W->W.heap[w.heap.size]? = some (.deferred (some []))->Q .normal { a with defers:={ target:=.collected w.heap.size,args:=#[] } :: a.defers } W):
 (Code.rangeFunc g ps assign body).wpIn F n P Q a w:=by
 refine wpIn_rangeFunc ?_
 intro fn hfn
 rw [hro]
 obtain ⟨b,hb⟩ : ∃b,b=w.heap.size:=⟨_,rfl⟩
 obtain ⟨rc,hrc⟩ : ∃rc:LoopState->Loop,rc=fun st=>{ state:=st,pending:=none,fn,tmps:=a.tmps,params:=ps,assign,body,defers:=w.heap.size }:=⟨_,rfl⟩
 obtain ⟨W1,hW1⟩ : ∃W1,(w.alloc (.deferred (some []))).alloc (.loop (rc .ready))=W1:=⟨_,rfl⟩
 have hB1:Below w.heap.size w W1:=by rw [<-hW1];exact ((Below.refl _ w).alloc (Nat.le_refl _) _).alloc (by simp) _
 have hD1:W1.heap[b]? = some (.deferred (some [])):=by
  rw [<-hW1,hb]
  exact (Below.heap_alloc _ _ _ (by simp)).trans (World.alloc_heap_new w _)
 have hL1:W1.heap[b+1]? = some (.loop (rc .ready)):=by
  rw [<-hW1,hb]
  have:=World.alloc_heap_new (w.alloc (.deferred (some []))) (.loop (rc .ready))
  rwa [World.size_alloc] at this
 refine ⟨w.heap.size+1,[{ target:=.collected w.heap.size,args:=#[] }],W1,{ target:=.fn (.func gf) lb,args:=#[.func (.yield (w.heap.size+1)) #[] #[]] },W1,gf,
  #[.func (.yield (w.heap.size+1)) #[] #[]]++lb,W1,?_,?_,?_,?_,fun _=>h1,?_⟩
 ·rw [<-hW1,hrc]
  exact run_enterLoop_outer _ _ _ _ _
 ·simp only [resolve,hg]
  simp [go_sem]
 ·intro f' hf'
  simp [Target.leads] at hf'
  subst hf'
  exact hF
 ·simp [invoke,go_sem,eg]
 ·subst hb
  have hlt : ∀ {W:World} {k:Nat} {o:Obj},W.heap[k]? = some o->k<W.heap.size:=fun h=>(Array.getElem?_eq_some_iff.1 h).1
  refine (hseq (w.heap.size+1) (fun pre W=>I pre W/\W.heap[w.heap.size]? = some (.deferred (some []))/\W.heap[w.heap.size+1]? = some (.loop (rc .ready))) W1 (fun pre W h=>hK pre W h.1)
   (fun pre W W' h hb'=>⟨hB pre W W' h.1 hb',(hb'.block _ (hlt h.2.1)).trans h.2.1,(hb'.block _ (hlt h.2.2)).trans h.2.2⟩) ?_ ⟨hB _ _ _ h0 hB1,hD1,hL1⟩).mono ?_
  ·rintro pre x W ⟨hi,hd,hl⟩ hx
   have hy:=run_yield (P:=P) (args:=encs x) hl (by rw [hrc];exact hps x)
   rw [hrc] at hy
   refine ⟨fn,_,assign,body,hy,roundIn_of_wpIn hfn (wpIn_mono (hbody (w.heap.size+1) pre x W rfl (hlt hl) hi hx) ?_)⟩
   rintro e a₁ W₁ hp
   cases e with
   | normal=>
     obtain ⟨hk,hi1,hbd⟩:=hp
     have hl1:=(hk _ (.inr rfl)).trans hl
     have hd1:=(hk _ (.inl rfl)).trans hd
     refine ⟨_,run_beginRound hl1 (by rw [hrc]),?_⟩
     refine wpIn_mono (hbd _) ?_
     rintro e a₂ W₂ hp
     cases e with
     | normal=>
       obtain ⟨hk2,hi2⟩:=hp
       have hl2:=(hk2 _ (.inr rfl)).trans (World.putObj_heap_same (hlt hl1))
       have hd2:=(hk2 _ (.inl rfl)).trans ((World.putObj_heap_other (by omega)).trans hd1)
       have hr:=run_endRound (P:=P) none hl2
       refine ⟨_,_,hr,rfl,hT _ _ _ (hlt hl2) hi2,(World.putObj_heap_other (by omega)).trans hd2,?_⟩
       rw [World.putObj_heap_same (hlt hl2),hrc]
       rfl
     | ret=>exact hp.elim
     | exit id=>exact hp.elim
     | goto t=>exact hp.elim
     | panic c=>exact hp.elim
     | outgrown=>exact hp.elim
   | ret=>exact hp.elim
   | exit id=>exact hp.elim
   | goto t=>exact hp.elim
   | panic c=>exact hp.elim
   | outgrown=>exact hp.elim
  ·rintro e W2 ⟨⟨v,rfl⟩,hi,hd,hl⟩
   have hr:=run_endLoop (P:=P) hl (by rw [hrc];simp)
   rw [hrc] at hr
   exact ⟨none,_,hr,hdone _ (hT _ _ _ (hlt hl) hi) ((World.putObj_heap_other (by omega)).trans hd)⟩
end Go.Proofs.YtdeneoknjeegbaaGreatDoor.P
end
section
namespace Go.Proofs.YtdeneoknjeegbaaGreatDoor.P
open Go Go.RowKit Go.Shelf YtdeneoknjeegbaaGreatDoor.Pure YtdeneoknjeegbaaGreatDoorW.PrintWords YtdeneoknjeegbaaGreatDoorW.PrintLast YtdeneoknjeegbaaGreatDoorW.PrintMore
set_option maxRecDepth 100000 in
theorem needs_calls (w:World) (A:Option Addr) (nf cf:Nat) (at_:Int) (y0 y1 y2 y3 y4 y5 y6 y7 y8 y9:Value) (same:Bool) (hn:nf<=1000000):
 Calls Tryz.prog 21 #[.agg #[.slice A nf cf,.int .i64 at_,y0,y1,y2,y3,y4,y5,y6,y7,y8,y9,.bool same]] w fun e w'=>e = .returned (.int .i64 ((nf:Int)+1+(if at_≠ -1/\same=false then 1 else 0)))/\Below w.heap.size w w':=by
 have hl1:wrap64 ((nf:Int)+1)=(nf:Int)+1:=wrap64_id _ (by omega)
 have hl2:wrap64 ((nf:Int)+1+1)=(nf:Int)+1+1:=wrap64_id _ (by omega)
 have HB:=fun (o:Obj)=>below_alloc (Below.refl w.heap.size w) o
 by_cases hat:at_ = -1
 ·have h1:(at_ != -1)=false:=by simp [hat]
  rw [show (if at_≠ -1/\same=false then (1:Int) else 0)=0 from if_neg (fun h=>h.1 hat),Int.add_zero]
  clear hat
  go_enter Tryz.func21,Tryz.ntmps21
  go_wp2_with fail
  go_ret
  exact ⟨rfl,HB _⟩
 ·have h1:(at_ != -1)=true:=by simp [hat]
  cases same with
  | true=>
    rw [show (if at_≠ -1/\true=false then (1:Int) else 0)=0 from if_neg (fun h=>by simp at h),Int.add_zero]
    clear hat
    go_enter Tryz.func21,Tryz.ntmps21
    go_wp2_with fail
    go_ret
    exact ⟨rfl,HB _⟩
  | false=>
    rw [show (if at_≠ -1/\false=false then (1:Int) else 0)=1 from if_pos ⟨hat,rfl⟩]
    clear hat
    go_enter Tryz.func21,Tryz.ntmps21
    go_wp2_with fail
    go_ret
    exact ⟨rfl,HB _⟩
theorem backward_calls (A:Option Addr) (n c:Nat) (w:World):
 Calls Tryz.prog 29 #[.slice A n c] w fun e w'=>e = .returned (.func (.func 61) #[] #[.pointer (some ⟨w.heap.size,0,none⟩)])/\w'=w.alloc (.cells #[.slice A n c] 54):=by
 go_enter Tryz.func29,Tryz.ntmps29
 go_wp2_with fail
 go_ret
 exact ⟨rfl,rfl⟩
def backs (rows:List (List Value)):Nat->List (Int×List Value)
 | 0=>[]
 | k+1=>((k:Int),rows.getD k []) :: backs rows k
theorem ten {r:List Value} (h:r.length=10) : ∃y0 y1 y2 y3 y4 y5 y6 y7 y8 y9,r = [y0,y1,y2,y3,y4,y5,y6,y7,y8,y9]:=by
 match r,h with
 | [y0,y1,y2,y3,y4,y5,y6,y7,y8,y9],_=>exact ⟨y0,y1,y2,y3,y4,y5,y6,y7,y8,y9,rfl⟩
structure RowsAt (W:World) (B:Nat) (A:Option Addr) (c:Nat) (rows:List (List Value)):Prop where
 box:W.cell? ⟨B,0,none⟩=some (.slice A rows.length c)
 row : ∀(k:Nat),k<rows.length->(rows.getD k []).length=10/\∃g,A=some ⟨g,0,none⟩/\∀j u,(rows.getD k [])[j]? = some u->W.cell? ⟨g,k*10+j,none⟩=some u
attribute [local go_sem] Oper.semAt_some
set_option maxHeartbeats 4000000 in
set_option maxRecDepth 100000 in
theorem back_gives (n B:Nat) (A:Option Addr) (c:Nat) (rows:List (List Value)) (hn:1<=n) (hl:rows.length<=1000000):
 Gives Fence.wide n Tryz.prog 61 #[.pointer (some ⟨B,0,none⟩)] (fun x:Int×List Value=>#[.int .i64 x.1,.agg x.2.toArray]) (backs rows rows.length) (fun W=>RowsAt W B A c rows):=fun l J W hK hB hY h0=>by
 have HK:=z_ hK
 have HY:=z_ hY
 have HL:=z_ hl
 have HN:=z_ hn
 have hbx:=(hK _ _ h0).box
 have H0:=z_ h0
 have hw:wrap64 ((rows.length:Int)-1)=(rows.length:Int)-1:=wrap64_id _ (by omega)
 obtain ⟨m,hm⟩ : ∃m,m=rows.length:=⟨_,rfl⟩
 rw [<-hm] at hbx hw
 have HM:=z_ hm
 have hm1:m<=1000000:=by omega
 show CallsIn Fence.wide n Tryz.prog 61 #[.func (.yield l) #[] #[],.pointer (some ⟨B,0,none⟩)] W fun e W'=>(∃v,e = .returned v)/\J (backs rows rows.length) W'
 clear hK hY hl hn h0 hm hB
 refine callsIn_of_wp Tryz.func61 rfl trivial ?_ rfl
 simp only [Tryz.ntmps61,List.size_toArray,List.length_cons,List.length_nil,Nat.reduceAdd,Nat.reduceSub,Array.replicate_succ,Array.replicate_zero,List.push_toArray,List.append_toArray,List.nil_append,List.cons_append]
 gi_wp2
 gi_loopw [3] (fun i wr=>∃(k:Nat) (z:Int) (pre:List (Int×List Value)),i = .int .i64 z/\Aside0 (z=(k:Int)-1/\k<=m/\pre++backs rows k=backs rows rows.length)/\J pre wr) (fun i _=>(intOf i+1).toNat)
 case atStart=>exact ⟨m,_,[],rfl,⟨by omega,Nat.le_refl _,by rw [HM.out];rfl⟩,H0.out⟩
 case round=>
  obtain ⟨k,z,pre,rfl,HZ,hJ⟩:=hrel
  have HJ:=z_ hJ
  clear hJ
  cases k with
  | zero=>
    obtain rfl:z = -1:=by have:=HZ.out.1;omega
    gi_wp2
    go_end0
    exact ⟨⟨_,rfl⟩,by have:=HZ.out.2.2;rw [<-this];simpa [backs] using HJ.out⟩
  | succ k=>
    obtain rfl:z=(k:Int):=by have:=HZ.out.1;omega
    have hr:=HK.out pre wr HJ.out
    have hbx2:=hr.box
    rw [<-HM.out] at hbx2
    obtain ⟨h10,g,rfl,hcs⟩:=hr.row k (by have:=HZ.out.2.1;have:=HM.out;omega)
    obtain ⟨y0,y1,y2,y3,y4,y5,y6,y7,y8,y9,hy⟩:=ten h10
    obtain ⟨fn,tmps,assign,body,hyy,hR⟩:=HY.out pre ((k:Int),rows.getD k []) wr HJ.out (by rw [<-HZ.out.2.2];exact ⟨backs rows k,by simp [backs]⟩)
    rw [hy] at hcs hyy
    dsimp only at hyy
    have c0:=hcs 0 y0 rfl
    have c1:=hcs 1 y1 rfl
    have c2:=hcs 2 y2 rfl
    have c3:=hcs 3 y3 rfl
    have c4:=hcs 4 y4 rfl
    have c5:=hcs 5 y5 rfl
    have c6:=hcs 6 y6 rfl
    have c7:=hcs 7 y7 rfl
    have c8:=hcs 8 y8 rfl
    have c9:=hcs 9 y9 rfl
    simp only [Nat.add_zero] at c0
    have q1:(k:Int)<(m:Int):=by have:=HZ.out.2.1;omega
    have q2:0<=(k:Int):=by omega
    have q3:wrap64 ((k:Int)-1)=(k:Int)-1:=wrap64_id _ (by omega)
    have HR:=z_ hR
    clear hR hr h10 hcs hy
    gi_wp2
    refine ⟨fun _=>HN.out,HR.out.mono ?_⟩
    rintro e W3 ⟨rfl,hJ3⟩
    have HJ3:=z_ hJ3
    clear hJ3
    gi_wp2
    go_roundw
    case rel=>exact ⟨k,_,_,rfl,⟨by omega,by have:=HZ.out.2.1;omega,by rw [<-HZ.out.2.2];simp [backs]⟩,HJ3.out⟩
    case measure=>simp only [intOf];omega
end Go.Proofs.YtdeneoknjeegbaaGreatDoor.P
end
