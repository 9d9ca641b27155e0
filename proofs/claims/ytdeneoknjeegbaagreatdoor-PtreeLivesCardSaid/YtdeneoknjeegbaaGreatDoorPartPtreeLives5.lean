/- Lemmas of this claim, part 5. -/
import Derived.Test.YtdeneoknjeegbaaGreatDoorPartPtreeLives3
import Derived.Test.YtdeneoknjeegbaaGreatDoorPartPtreeLives4
import Derived.Test.YtdeneoknjeegbaaGreatDoorPartPtreeLives2
set_option linter.unusedVariables false
set_option linter.unusedSimpArgs false
section
namespace Go.Proofs.YtdeneoknjeegbaaGreatDoor.P
open Go.RowKit YtdeneoknjeegbaaGreatDoorW.PrintWords YtdeneoknjeegbaaGreatDoorW.PrintLast YtdeneoknjeegbaaGreatDoorW.PrintMore
theorem wrap_u32 (n:Int):IntKind.u32.wrap n=n%4294967296:=IntKind.wrap_u32 n
def W32 (x:Int):Prop:=0<=x/\x<4294967296
def B (x:Int):BitVec 32:=BitVec.ofInt 32 x
theorem B_toNat (x:Int):(B x).toNat=(x%4294967296).toNat:=by
 unfold B;rw [BitVec.toNat_ofInt];rfl
theorem B_inj {x y:Int} (hx:W32 x) (hy:W32 y) (h:B x=B y):x=y:=by
 have:=congrArg BitVec.toNat h
 rw [B_toNat,B_toNat] at this
 unfold W32 at hx hy;omega
theorem B_of (v:BitVec 32):B ((v.toNat:Int)%4294967296)=v:=by
 apply BitVec.eq_of_toNat_eq
 rw [B_toNat]
 have:=v.isLt
 omega
theorem bits_W32 (op:BinOp) (x y:Int):W32 (Go.bits op .u32 x y):=by
 unfold Go.bits W32
 rw [wrap_u32]
 omega
theorem B_xor (x y:Int):B (Go.bits .xor .u32 x y)=B x ^^^ B y:=by
 unfold Go.bits;rw [wrap_u32];exact B_of _
theorem B_and (x y:Int):B (Go.bits .and .u32 x y)=B x &&& B y:=by
 unfold Go.bits;rw [wrap_u32];exact B_of _
theorem B_or (x y:Int):B (Go.bits .or .u32 x y)=B x ||| B y:=by
 unfold Go.bits;rw [wrap_u32];exact B_of _
theorem B_max:B IntKind.u32.max=BitVec.allOnes 32:=by decide
theorem choice_eq (e f g:Int):Go.bits .xor .u32 (Go.bits .and .u32 e (Go.bits .xor .u32 f g)) g=Go.bits .xor .u32 (Go.bits .and .u32 e f) (Go.bits .and .u32 (Go.bits .xor .u32 IntKind.u32.max e) g):=by
 apply B_inj (bits_W32 _ _ _) (bits_W32 _ _ _)
 simp only [B_xor,B_and,B_max]
 ext i hi
 simp only [BitVec.getElem_xor,BitVec.getElem_and,BitVec.getElem_allOnes]
 cases (B e)[i]<;>cases (B f)[i]<;>cases (B g)[i]<;>rfl
theorem most_eq (a b c:Int):Go.bits .or .u32 (Go.bits .and .u32 a (Go.bits .or .u32 b c)) (Go.bits .and .u32 b c)=Go.bits .xor .u32 (Go.bits .xor .u32 (Go.bits .and .u32 a b) (Go.bits .and .u32 a c)) (Go.bits .and .u32 b c):=by
 apply B_inj (bits_W32 _ _ _) (bits_W32 _ _ _)
 simp only [B_xor,B_and,B_or]
 ext i hi
 simp only [BitVec.getElem_xor,BitVec.getElem_and,BitVec.getElem_or]
 cases (B a)[i]<;>cases (B b)[i]<;>cases (B c)[i]<;>rfl
theorem bits_or_comm (x y:Int):Go.bits .or .u32 x y=Go.bits .or .u32 y x:=by
 apply B_inj (bits_W32 _ _ _) (bits_W32 _ _ _)
 simp only [B_or]
 exact BitVec.or_comm _ _
theorem and31 (a:Int) (h0:0<=a) (h1:a<32):Go.bits .and .u64 (IntKind.u64.wrap a) 31=a:=by
 have e:IntKind.u64.wrap a=a:=by rw [IntKind.wrap_u64];omega
 rw [e]
 unfold Go.bits
 have ha:(BitVec.ofInt IntKind.u64.bits a &&& BitVec.ofInt IntKind.u64.bits 31).toNat=a.toNat:=by
  have h7:BitVec.ofInt IntKind.u64.bits 31=BitVec.ofNat 64 31:=rfl
  rw [h7]
  have h1:(BitVec.ofInt 64 a).toNat=(a%18446744073709551616).toNat:=by rw [BitVec.toNat_ofInt];rfl
  show ((BitVec.ofInt 64 a) &&& BitVec.ofNat 64 31).toNat=_
  rw [BitVec.toNat_and,h1,BitVec.toNat_ofNat]
  have h2:=Nat.and_two_pow_sub_one_eq_mod (a%18446744073709551616).toNat 5
  have h3:(31%2^64:Nat)=2^5-1:=by decide
  rw [h3,h2]
  omega
 simp only [ha]
 rw [IntKind.wrap_u64]
 omega
theorem rot_eq (x a:Int) (h:0<a/\a<32):bits_RotateLeft32.f x (wrap64 (32-a))=some (Go.bits .or .u32 (shl .u32 x (32-a)) (shr .u32 x a)):=by
 unfold bits_RotateLeft32.f
 have e:wrap64 (32-a)=32-a:=by unfold wrap64;omega
 have e2:IntKind.u64.wrap (32-(32-a))=a:=by rw [IntKind.wrap_u64];omega
 rw [e,and31 _ (by omega) (by omega),e2,if_pos (by omega),if_pos (by omega)]
theorem right_eq (x a:Int) (h:0<a/\a<32):(annalsref01_right.f x a).getD 0=Go.bits .or .u32 (shl .u32 x (32-a)) (shr .u32 x a):=by
 unfold annalsref01_right.f
 have e:wrap64 (32-a)=32-a:=by unfold wrap64;omega
 rw [e,if_pos (by omega),if_pos (by omega),bits_or_comm]
 rfl
theorem sigma_R (x a b c:Int) (ha:0<a/\a<32) (hb:0<b/\b<32) (hc:0<c/\c<32):(sha_sigma.f x a b c).getD 0=Go.bits .xor .u32 (Go.bits .xor .u32 ((annalsref01_right.f x a).getD 0) ((annalsref01_right.f x b).getD 0)) ((annalsref01_right.f x c).getD 0):=by
 unfold sha_sigma.f
 rw [rot_eq x a ha,rot_eq x b hb,rot_eq x c hc,right_eq x a ha,right_eq x b hb,right_eq x c hc]
 rfl
theorem gamma_R (x a b c:Int) (ha:0<a/\a<32) (hb:0<b/\b<32) (hc:0<=c):(sha_gamma.f x a b c).getD 0=Go.bits .xor .u32 (Go.bits .xor .u32 ((annalsref01_right.f x a).getD 0) ((annalsref01_right.f x b).getD 0)) (shr .u32 x c):=by
 unfold sha_gamma.f
 rw [rot_eq x a ha,rot_eq x b hb,right_eq x a ha,right_eq x b hb]
 simp only [Option.bind_some]
 rw [if_pos hc]
 rfl
theorem gamma_R10 (x:Int):(sha_gamma.f x 17 19 10).getD 0=Go.bits .xor .u32 (Go.bits .xor .u32 ((annalsref01_right.f x 17).getD 0) ((annalsref01_right.f x 19).getD 0)) (x/1024):=gamma_R x 17 19 10 (by omega) (by omega) (by omega)
theorem gamma_R3 (x:Int):(sha_gamma.f x 7 18 3).getD 0=Go.bits .xor .u32 (Go.bits .xor .u32 ((annalsref01_right.f x 7).getD 0) ((annalsref01_right.f x 18).getD 0)) (x/8):=gamma_R x 7 18 3 (by omega) (by omega) (by omega)
def BytesOk (bs:List Int):Prop:=∀x∈bs,0<=x/\x<=255
theorem rword_eq (ts:List Int) (h:4<=ts.length) (hb:BytesOk ts):rword ts=((ts.getD 0 0*256+ts.getD 1 0)*256+ts.getD 2 0)*256+ts.getD 3 0:=by
 unfold rword annalsref01_word.f
 rw [if_pos (by omega),if_pos (by omega),if_pos (by omega),if_pos (by omega),Option.getD_some]
 have g (j:Nat):0<=ts.getD j 0/\ts.getD j 0<=255:=by
  rw [List.getD_eq_getElem?_getD]
  by_cases hj:j<ts.length
  ·rw [List.getElem?_eq_getElem hj];exact hb _ (List.getElem_mem hj)
  ·rw [List.getElem?_eq_none (by omega)];simp
 have g0:=g 0
 have g1:=g 1
 have g2:=g 2
 have g3:=g 3
 unfold rd
 simp only [Int.toNat_zero,Int.toNat_one,show (2:Int).toNat=2 from rfl,show (3:Int).toNat=3 from rfl]
 omega
theorem round_eq (s:Sums) (add wi:Int):s.round add wi=s.rround ((add+wi)%4294967296):=by
 unfold Sums.round Sums.rround
 dsimp only
 rw [sigma_R s.e 6 11 25 (by omega) (by omega) (by omega),sigma_R s.a 2 13 22 (by omega) (by omega) (by omega),choice_eq,most_eq]
 congr 1<;>omega
theorem or_bytes (x b:Int) (h0:0<=x) (h1:x<16777216) (b0:0<=b) (b1:b<=255):Go.bits .or .u32 (x*256%4294967296) (b%4294967296)=x*256+b:=by
 have e1:x*256%4294967296=x*256:=by omega
 have e2:b%4294967296=b:=by omega
 rw [e1,e2]
 unfold Go.bits
 rw [wrap_u32]
 obtain ⟨n,rfl⟩ : ∃n:Nat,x=n:=⟨x.toNat,by omega⟩
 obtain ⟨m,rfl⟩ : ∃n:Nat,b=n:=⟨b.toNat,by omega⟩
 have hn:(BitVec.ofInt IntKind.u32.bits ((n:Int)*256)).toNat=n*2^8:=by
  show (BitVec.ofInt 32 ((n:Int)*256)).toNat=_
  rw [BitVec.toNat_ofInt]
  omega
 have hm:(BitVec.ofInt IntKind.u32.bits (m:Int)).toNat=m:=by
  show (BitVec.ofInt 32 (m:Int)).toNat=_
  rw [BitVec.toNat_ofInt]
  omega
 simp only [BitVec.toNat_or,hn,hm]
 have h3:n*2^8 ||| m=n*2^8+m:=by
  rw [Nat.mul_comm]
  exact (Nat.two_pow_add_eq_or_of_lt (by omega) n).symm
 rw [h3]
 omega
theorem getD_set_self (xs:List Int) (i:Nat) (x:Int) (h:i<xs.length):(xs.set i x).getD i 0=x:=by
 rw [List.getD_eq_getElem?_getD,List.getElem?_set_self h];rfl
theorem getD_set_ne (xs:List Int) (i j:Nat) (x:Int) (h:i≠j):(xs.set i x).getD j 0=xs.getD j 0:=by
 rw [List.getD_eq_getElem?_getD,List.getElem?_set_ne h,<-List.getD_eq_getElem?_getD]
theorem rws_late (ts:List Int) (p m j:Nat) (h:m<=j):(rws ts p m).getD j 0=0:=by
 induction m with
 | zero=>
   show (List.replicate 64 (0:Int)).getD j 0=0
   rw [List.getD_eq_getElem?_getD,List.getElem?_replicate]
   split<;>rfl
 | succ m ih=>
   simp only [rws]
   rw [getD_set_ne _ _ _ _ (by omega)]
   exact ih (by omega)
theorem rws_keep (ts:List Int) (p m j:Nat) (h:j<m):(rws ts p m).getD j 0=(rws ts p (j+1)).getD j 0:=by
 induction m with
 | zero=>omega
 | succ m ih=>
   by_cases hj:j=m
   ·rw [hj]
   ·rw [<-ih (by omega)]
    simp only [rws]
    rw [getD_set_ne _ _ _ _ (by omega)]
theorem BytesOk.get {bs:List Int} (h:BytesOk bs) (j:Nat):0<=bs.getD j 0/\bs.getD j 0<=255:=by
 rw [List.getD_eq_getElem?_getD]
 by_cases hj:j<bs.length
 ·rw [List.getElem?_eq_getElem hj];exact h _ (List.getElem_mem hj)
 ·rw [List.getElem?_eq_none (by omega)];simp
theorem BytesOk.drop {bs:List Int} (h:BytesOk bs) (j:Nat):BytesOk (bs.drop j):=fun x hx=>h x (List.mem_of_mem_drop hx)
theorem getD_drop (xs:List Int) (p j:Nat):(xs.drop p).getD j 0=xs.getD (p+j) 0:=by
 rw [List.getD_eq_getElem?_getD,List.getElem?_drop,<-List.getD_eq_getElem?_getD]
theorem sched1_rws (ts:List Int) (p:Nat) (hl:p+64<=ts.length) (hb:BytesOk ts) (m:Nat) (hm:m<=16):sched1 (ts.drop p) (4*m)=rws ts p m:=by
 induction m with
 | zero=>rfl
 | succ m ih=>
   have ih:=ih (by omega)
   obtain ⟨X,hX⟩ : ∃X,X=rws ts p m:=⟨_,rfl⟩
   have hXl:X.length=64:=by rw [hX];exact rws_length _ _ _
   have hX0:X.getD m 0=0:=by rw [hX];exact rws_late _ _ _ _ (Nat.le_refl _)
   rw [<-hX] at ih
   have r (j:Nat):0<=(ts.drop p).getD j 0/\(ts.drop p).getD j 0<=255:=(hb.drop p).get j
   have step (k:Nat) (Y:List Int) (y:Int) (hk:k/4=m) (hY:sched1 (ts.drop p) k=Y.set m y) (hYl:Y.length=64) (h0:0<=y) (h1:y<16777216):
    sched1 (ts.drop p) (k+1)=Y.set m (y*256+(ts.drop p).getD k 0):=by
    simp only [sched1]
    rw [hk,hY,getD_set_self _ _ _ (by omega)]
    unfold rd
    rw [Int.toNat_natCast,or_bytes _ _ h0 h1 (r k).1 (r k).2,List.set_set]
   have r0:=r (4*m)
   have r1:=r (4*m+1)
   have r2:=r (4*m+2)
   have r3:=r (4*m+3)
   have s0:sched1 (ts.drop p) (4*m)=X.set m 0:=by
    rw [ih]
    apply List.ext_getElem?
    intro j
    by_cases hj:m=j
    ·subst hj
     rw [List.getElem?_set_self (by omega),List.getElem?_eq_getElem (by omega)]
     rw [List.getD_eq_getElem?_getD,List.getElem?_eq_getElem (by omega)] at hX0
     exact congrArg some hX0
    ·rw [List.getElem?_set_ne hj]
   have s1:=step (4*m) X 0 (by omega) s0 hXl (by omega) (by omega)
   have s2:=step (4*m+1) X _ (by omega) s1 hXl (by omega) (by omega)
   have s3:=step (4*m+2) X _ (by omega) s2 hXl (by omega) (by omega)
   have s4:=step (4*m+3) X _ (by omega) s3 hXl (by omega) (by omega)
   show sched1 (ts.drop p) (4*m+4)=_
   rw [s4]
   simp only [rws]
   rw [if_pos (by omega),<-hX,rword_eq _ (by rw [List.length_drop];omega) (hb.drop _)]
   simp only [getD_drop]
   rw [show p+4*m+0=p+4*m from rfl,show p+(4*m+1)=p+4*m+1 from rfl,show p+(4*m+2)=p+4*m+2 from rfl,show p+(4*m+3)=p+4*m+3 from rfl]
   simp only [Int.zero_mul,Int.zero_add]
theorem sched2At_eq (ws:List Int) (i:Nat):sched2At ws i=rnext ws i:=by
 unfold sched2At rnext
 simp only [gamma_R10,gamma_R3]
 omega
theorem sched2_rws (ts:List Int) (p k:Nat):sched2 (rws ts p 16) k=rws ts p (16+k):=by
 induction k with
 | zero=>rfl
 | succ k ih=>
   simp only [sched2]
   rw [ih,show 16+(k+1)=(16+k)+1 from rfl]
   simp only [rws]
   rw [if_neg (by omega),Nat.add_comm 16 k,sched2At_eq]
theorem schedule_rws (ts:List Int) (p:Nat) (hl:p+64<=ts.length) (hb:BytesOk ts):schedule (ts.drop p)=rws ts p 64:=by
 unfold schedule
 rw [show 64=4*16 from rfl,sched1_rws ts p hl hb 16 (by omega),sched2_rws]
theorem rounds_eq (ts:List Int) (p:Nat) (h:Sums) (i:Nat) (hi:i<=64):Sums.rounds (rws ts p 64) h i=rrounds ts p h i:=by
 induction i with
 | zero=>rfl
 | succ i ih=>
   simp only [Sums.rounds,rrounds]
   rw [ih (by omega),round_eq,rws_keep ts p 64 i (by omega)]
theorem addW_get (xs ys:List Int) (k:Nat) (hk:k<=xs.length) (j:Nat):(addW xs ys k).getD j 0=if j<k then (xs.getD j 0+ys.getD j 0)%4294967296 else xs.getD j 0:=by
 induction k with
 | zero=>simp [addW]
 | succ k ih=>
   have ih:=ih (by omega)
   simp only [addW]
   by_cases hj:k=j
   ·subst hj
    rw [getD_set_self _ _ _ (by rw [addW_length];omega),ih,if_neg (by omega),if_pos (by omega)]
   ·rw [getD_set_ne _ _ _ _ hj,ih]
    by_cases h:j<k
    ·rw [if_pos h,if_pos (by omega)]
    ·rw [if_neg h,if_neg (by omega)]
theorem ext_getD (xs ys:List Int) (hl:xs.length=ys.length) (h : ∀j,j<xs.length->xs.getD j 0=ys.getD j 0):xs=ys:=by
 apply List.ext_getElem hl
 intro j h1 h2
 have:=h j h1
 rwa [List.getD_eq_getElem?_getD,List.getD_eq_getElem?_getD,List.getElem?_eq_getElem h1,List.getElem?_eq_getElem h2] at this
theorem addW_comm (xs ys:List Int) (hx:xs.length=8) (hy:ys.length=8):addW xs ys 8=addW ys xs 8:=by
 apply ext_getD
 ·rw [addW_length,addW_length,hx,hy]
 ·intro j hj
  rw [addW_length] at hj
  rw [addW_get _ _ _ (by omega),addW_get _ _ _ (by omega),if_pos (by omega),if_pos (by omega),Int.add_comm]
theorem take_rws (ts:List Int) (p:Nat) (s:Sums) (hl:p+64<=ts.length) (hb:BytesOk ts):s.take (ts.drop p)=addW s.list (rrounds ts p s 64).list 8:=by
 unfold Sums.take
 rw [schedule_rws ts p hl hb,rounds_eq _ _ _ _ (Nat.le_refl _)]
 exact addW_comm _ _ rfl rfl
theorem sched1_congr (a b:List Int) (k:Nat) (h : ∀j,j<k->a.getD j 0=b.getD j 0):sched1 a k=sched1 b k:=by
 induction k with
 | zero=>rfl
 | succ k ih=>
   simp only [sched1]
   unfold rd
   rw [ih (fun j hj=>h j (by omega)),Int.toNat_natCast,h k (by omega)]
theorem take_congr (s:Sums) (a b:List Int) (h : ∀j,j<64->a.getD j 0=b.getD j 0):s.take a=s.take b:=by
 unfold Sums.take schedule
 rw [sched1_congr a b 64 h]
theorem blocks_rsums (ts bs:List Int) (p m:Nat) (S:Sums) (hS:S=rsums ts p) (hl:64*(p+m)<=ts.length) (hb:BytesOk ts)
 (hg : ∀i j,i<m->j<64->(bs.drop (64*i)).getD j 0=ts.getD (64*(p+i)+j) 0):Sums.blocks S bs m=rsums ts (p+m):=by
 induction m with
 | zero=>exact hS
 | succ m ih=>
   have ih:=ih (by omega) (fun i j hi hj=>hg i j (by omega) hj)
   simp only [Sums.blocks]
   rw [ih,show p+(m+1)=(p+m)+1 from rfl]
   simp only [rsums]
   rw [<-take_rws ts (64*(p+m)) (rsums ts (p+m)) (by omega) hb]
   refine congrArg Sums.of (take_congr _ _ _ fun j hj=>?_)
   rw [hg m j (by omega) hj,getD_drop]
theorem tailLen_length (m k:Nat) : ∀(x i:Nat) (ys:List Int),(tailLen m k x i ys).length=ys.length:=by
 induction k with
 | zero=>intro x i ys;rfl
 | succ k ih=>
   intro x i ys
   simp only [tailLen]
   split
   ·rw [ih,List.length_set]
   ·rfl
theorem tailLen_get (m k:Nat) : ∀(x i:Nat) (ys:List Int) (j:Nat),1<=i->m<=ys.length->i+k<=m+1->(∀j,m<j+i+k->j+i<=m->ys.getD j 0=0)->
 (tailLen m k x i ys).getD j 0=if m<j+i+k/\j+i<=m then ((x/256^(m-i-j)%256:Nat):Int) else ys.getD j 0:=by
 induction k with
 | zero=>
   intro x i ys j _ _ _ _
   rw [if_neg (by omega)]
   rfl
 | succ k ih=>
   intro x i ys j hi hm hk hz
   simp only [tailLen]
   by_cases hx:0<x
   ·rw [if_pos hx,ih (x/256) (i+1) (ys.set (m-i) ((x%256:Nat):Int)) j (by omega) (by rw [List.length_set];omega) (by omega) (fun j h1 h2=>by rw [getD_set_ne _ _ _ _ (by omega)];exact hz j (by omega) (by omega))]
    by_cases h1:m<j+(i+1)+k/\j+(i+1)<=m
    ·rw [if_pos h1,if_pos (by omega)]
     congr 2
     rw [Nat.div_div_eq_div_mul]
     congr 1
     rw [show m-i-j=(m-(i+1)-j)+1 from by omega,Nat.pow_succ,Nat.mul_comm]
    ·rw [if_neg h1]
     by_cases h2:j+i=m
     ·rw [if_pos (by omega),show m-i=j from by omega,getD_set_self _ _ _ (by omega),show j-j=0 from by omega,Nat.pow_zero,Nat.div_one]
     ·rw [if_neg (by omega),getD_set_ne _ _ _ _ (by omega)]
   ·rw [if_neg hx]
    obtain rfl:x=0:=by omega
    by_cases h1:m<j+i+(k+1)/\j+i<=m
    ·rw [if_pos h1,hz j h1.1 h1.2,Nat.zero_div]
     rfl
    ·rw [if_neg h1]
theorem rlen_get (n k j:Nat) (h:j<k):(rlen n k).getD j 0=(8*(n:Int))/2^(56-8*(j:Int)).toNat%256:=by
 induction k with
 | zero=>omega
 | succ k ih=>
   simp only [rlen]
   rw [List.getD_eq_getElem?_getD]
   by_cases hj:j<k
   ·rw [List.getElem?_append_left (by rw [rlen_length];exact hj),<-List.getD_eq_getElem?_getD]
    exact ih hj
   ·obtain rfl:j=k:=by omega
    rw [List.getElem?_append_right (by rw [rlen_length];omega),rlen_length,Nat.sub_self]
    rfl
theorem tailBlocks_r (n:Nat):n/64+tailBlocks n=rblocks n:=by
 unfold tailBlocks rblocks
 split<;>omega
theorem getD_append_left (xs ys:List Int) (j:Nat) (h:j<xs.length):(xs++ys).getD j 0=xs.getD j 0:=by
 rw [List.getD_eq_getElem?_getD,List.getElem?_append_left h,<-List.getD_eq_getElem?_getD]
theorem getD_append_right (xs ys:List Int) (j:Nat) (h:xs.length<=j):(xs++ys).getD j 0=ys.getD (j-xs.length) 0:=by
 rw [List.getD_eq_getElem?_getD,List.getElem?_append_right h,<-List.getD_eq_getElem?_getD]
theorem getD_replicate0 (n j:Nat):(List.replicate n (0:Int)).getD j 0=0:=by
 rw [List.getD_eq_getElem?_getD,List.getElem?_replicate]
 split<;>rfl
theorem rpad_get (bs:List Int) (k j:Nat):(rpad bs k).getD j 0=if j<bs.length then bs.getD j 0 else if j=bs.length then 128 else 0:=by
 unfold rpad
 by_cases h:j<bs.length
 ·rw [if_pos h,getD_append_left _ _ _ (by simp;omega),getD_append_left _ _ _ h]
 ·rw [if_neg h]
  by_cases h2:j=bs.length
  ·rw [if_pos h2,getD_append_left _ _ _ (by simp;omega),getD_append_right _ _ _ (by omega),h2,Nat.sub_self]
   rfl
  ·rw [if_neg h2,getD_append_right _ _ _ (by simp;omega),getD_replicate0]
theorem tail0_get (rest:List Int) (hr:rest.length<128) (j:Nat):(tail0 rest).getD j 0=if j<rest.length then rest.getD j 0 else if j=rest.length then 128 else 0:=by
 unfold tail0
 by_cases h2:j=rest.length
 ·rw [if_neg (by omega),if_pos h2,h2,getD_set_self _ _ _ (by simp;omega)]
 ·rw [getD_set_ne _ _ _ _ (by omega)]
  by_cases h:j<rest.length
  ·rw [if_pos h,getD_append_left _ _ _ h]
  ·rw [if_neg h,if_neg h2,getD_append_right _ _ _ (by omega),getD_replicate0]
theorem tail0_length (rest:List Int) (hr:rest.length<128):(tail0 rest).length=128:=by
 unfold tail0
 simp
 omega
theorem tailOf_rtext (bs:List Int):(tailOf bs).take (tailSize bs.length)=(rtext bs).drop (64*(bs.length/64)):=by
 obtain ⟨n,hn⟩ : ∃n,n=bs.length:=⟨_,rfl⟩
 have hrl:(bs.drop (64*(bs.length/64))).length=n%64:=by rw [List.length_drop];omega
 have ht:n/64+tailBlocks n=rblocks n:=tailBlocks_r n
 have hz:=rzeros_eq n
 have hts:tailSize n=64*tailBlocks n:=rfl
 have htb:tailBlocks n=1\/tailBlocks n=2:=by unfold tailBlocks;split<;>omega
 have htl:(tailOf bs).length=128:=by unfold tailOf;rw [tailLen_length,tail0_length _ (by omega)]
 apply ext_getD
 ·rw [List.length_take,htl,List.length_drop,rtext_length,<-hn]
  omega
 ·intro j hj
  rw [List.length_take,htl,<-hn] at hj
  rw [getD_drop]
  have h1:((tailOf bs).take (tailSize bs.length)).getD j 0=(tailOf bs).getD j 0:=by
   rw [List.getD_eq_getElem?_getD,List.getElem?_take,if_pos (by rw [<-hn];omega),<-List.getD_eq_getElem?_getD]
  rw [h1]
  unfold tailOf
  rw [tailLen_get _ 8 _ 1 _ j (by omega) (by rw [tail0_length _ (by omega),<-hn];omega) (by rw [<-hn];omega) (fun j h1 h2=>by
   rw [tail0_get _ (by omega),hrl,if_neg (by rw [<-hn] at *;omega),if_neg (by rw [<-hn] at *;omega)])]
  unfold rtext
  rw [<-hn] at hrl
  rw [<-hn]
  by_cases hw:tailSize n<j+1+8/\j+1<=tailSize n
  ·rw [if_pos hw,getD_append_right _ _ _ (by rw [rpad_length,<-hn];omega),rpad_length,<-hn]
   obtain ⟨k,hk⟩ : ∃k,k=64*(n/64)+j-(n+1+rzeros n):=⟨_,rfl⟩
   rw [<-hk,rlen_get _ _ _ (by omega),show tailSize n-1-j=7-k from by omega]
   have hk8:k<8:=by omega
   rcases (show k=0\/k=1\/k=2\/k=3\/k=4\/k=5\/k=6\/k=7 by omega) with h|h|h|h|h|h|h|h<;>rw [h]<;>simp<;>omega
  ·rw [if_neg hw,tail0_get _ (by omega),hrl,getD_append_left _ _ _ (by rw [rpad_length,<-hn];omega),rpad_get,<-hn]
   by_cases h2:j<n%64
   ·rw [if_pos h2,if_pos (by omega),getD_drop]
   ·rw [if_neg h2,if_neg (show ¬64*(n/64)+j<n by omega)]
    by_cases h3:j=n%64
    ·rw [if_pos h3,if_pos (by omega)]
    ·rw [if_neg h3,if_neg (by omega)]
theorem rtext_ok (bs:List Int) (hb:BytesOk bs):BytesOk (rtext bs):=by
 intro x hx
 unfold rtext rpad at hx
 simp only [List.mem_append,List.mem_singleton,List.mem_replicate] at hx
 rcases hx with ((hx|rfl)|⟨_,rfl⟩)|hx
 ·exact hb x hx
 ·omega
 ·omega
 ·have h (k:Nat) : ∀x∈rlen bs.length k,0<=x/\x<=255:=by
   induction k with
   | zero=>intro x hx;cases hx
   | succ k ih=>
     intro x hx
     simp only [rlen,List.mem_append,List.mem_singleton] at hx
     rcases hx with hx|rfl
     ·exact ih x hx
     ·omega
  exact h 8 x hx
theorem out_eq (s:Sums):outB s.list 32=rout s.list 8:=by
 simp [outB,rout,wordByte,Sums.list]
theorem sum_eq (bs:List Int) (hb:BytesOk bs):shaSum bs=refSum bs:=by
 unfold shaSum refSum
 rw [out_eq]
 congr 2
 have ht:=tailBlocks_r bs.length
 have hz:=rzeros_eq bs.length
 have hl:=rtext_length bs
 have h1:Sums.blocks Sums.first bs (bs.length/64)=rsums (rtext bs) (0+bs.length/64):=by
  refine blocks_rsums (rtext bs) bs 0 (bs.length/64) Sums.first rfl (by rw [hl];omega) (rtext_ok bs hb) ?_
  intro i j hi hj
  rw [getD_drop,Nat.zero_add]
  unfold rtext
  rw [getD_append_left _ _ _ (by rw [rpad_length];omega),rpad_get,if_pos (by omega)]
 rw [h1,Nat.zero_add,tailOf_rtext,<-ht]
 refine blocks_rsums (rtext bs) _ _ _ _ rfl (by rw [hl];omega) (rtext_ok bs hb) ?_
 intro i j hi hj
 rw [getD_drop,getD_drop]
 congr 1
 omega
def bitBytes (n:Nat):Nat:=(n-1)/8+1
def cutByte (x:Int) (over:Int):Int:=Go.bits .and .u8 x (255*2^(8-over).toNat%256)
def firstBits (l:List Int) (n:Nat):List Int:=
 if n%8=0 then l.take (bitBytes n) else (l.take (bitBytes n)).set (bitBytes n-1) (cutByte ((l.take (bitBytes n)).getD (bitBytes n-1) 0) ((n%8:Nat):Int))
def firstB (l:List Int) (a:Int):List Int:=if 8*(l.length:Int)<=a then l else if a<1 then [] else firstBits l a.toNat
def bits_First.f (l0:List Int) (a1:Int):Option (List Int):=if l0.length<140737488355328 then some (firstB l0 a1) else none
theorem and7 (a:Int):Go.bits .and .i64 a 7=a%8:=by
 unfold Go.bits
 have h7:BitVec.ofInt IntKind.i64.bits 7=BitVec.ofNat 64 7:=rfl
 have ha:(BitVec.ofInt IntKind.i64.bits a &&& BitVec.ofInt IntKind.i64.bits 7).toNat=(a%8).toNat:=by
  rw [h7]
  have h1:(BitVec.ofInt 64 a).toNat=(a%18446744073709551616).toNat:=by rw [BitVec.toNat_ofInt];rfl
  show ((BitVec.ofInt 64 a) &&& BitVec.ofNat 64 7).toNat=_
  rw [BitVec.toNat_and,h1,BitVec.toNat_ofNat]
  have h2:=Nat.and_two_pow_sub_one_eq_mod (a%18446744073709551616).toNat 3
  have h3:(7%2^64:Nat)=2^3-1:=by decide
  rw [h3,h2]
  omega
 simp only [ha]
 rw [IntKind.wrap_i64]
 omega
set_option maxHeartbeats 4000000 in
set_option maxRecDepth 100000 in
theorem bits_First.calls (A0:Option Addr) (c0:Nat) (l0:List Int) (a1:Int) (r:List Int) (w:World) (hr0:Kd.C (Kd.int .u8) w A0 l0.length l0) (hc0:l0.length<=c0) (h:bits_First.f l0 a1=some r):
 Calls Tryz.prog 62 #[.slice A0 l0.length c0,.int .i64 a1] w fun e w'=>∃v0_:Value,e = .returned (v0_)/\Kd.R (Kd.int .u8) 5 w' w.heap.size (fun _=>True) v0_ r/\Below w.heap.size w w':=by
 unfold bits_First.f at h
 split at h
 case isFalse=>cases h
 case isTrue hlb=>
 obtain rfl:=Option.some.inj h
 have HR:=z_ hr0
 have HC:=z_ hc0
 have hl2:(l0.length:Int)<140737488355328:=by omega
 have HL:=z_ hlb
 unfold firstB
 by_cases hge:8*(l0.length:Int)<=a1
 ·rw [if_pos hge]
  have hd:decide (8*(l0.length:Int)<=a1)=true:=decide_eq_true hge
  have HH:=z_ (show slices_Clone_byte_byte.f l0=some l0 from if_pos hlb)
  clear h hr0 hc0 hge hlb
  go_enter Tryz.func62,Tryz.ntmps62
  go_wp2_with fail
  refine (slices_Clone_byte_byte.calls A0 c0 l0 l0 _ HR.out HC.out HH.out).mono ?_
  rintro e1 w1 ⟨v,rfl,hR,hB⟩
  have HR1:=z_ hR
  have HB1:=z_ hB
  clear hR hB
  go_wp2_with fail
  go_ret
  exact ⟨_,rfl,HR1.out,HB1.out⟩
 ·rw [if_neg hge]
  have hd:decide (8*(l0.length:Int)<=a1)=false:=decide_eq_false hge
  by_cases h1:a1<1
  ·rw [if_pos h1]
   have hd1:decide (a1<1)=true:=decide_eq_true h1
   clear h hr0 hc0 hge h1 hlb
   go_enter Tryz.func62,Tryz.ntmps62
   go_wp2_with fail
   go_ret
   exact ⟨_,rfl,Kd.R_nil _ _ _ _ _,Below.refl _ _⟩
  ·rw [if_neg h1]
   have hd1:decide (a1<1)=false:=decide_eq_false h1
   obtain ⟨m,hm⟩ : ∃m,m=bitBytes a1.toNat:=⟨_,rfl⟩
   have hm1:(a1-1)/8+1=(m:Int):=by rw [hm];unfold bitBytes;omega
   have hml:m<=l0.length:=by omega
   have hm0:0<m:=by omega
   have ha1:1<=a1:=by omega
   have HA1:=z_ ha1
   have ha2:a1<=1125899906842624:=by omega
   have hmi:(m:Int)<=140737488355328:=by omega
   have hmk:=print_make (P:=Tryz.prog) 23 5 .u8 1 Tryz.underlying23 info5 (by decide) m (by omega)
   obtain ⟨W1,hW1⟩ : ∃W1,W1=w.alloc (.cells (madeCells #[.int .u8 0] m) 5):=⟨_,rfl⟩
   have hz:(madeCells #[Value.int .u8 0] m)=(List.replicate m (Value.int .u8 0)).toArray:=by
    apply Array.ext'
    have:=own_made w w.heap.size 5 .u8 m (Nat.le_refl _) (by omega)
    apply List.ext_getElem
    ·simp [size_madeCells]
    ·intro i h1 h2
     simp [madeCells,Nat.mod_one]
   have HTAIL:W1.heap[w.heap.size]? = some (.cells (List.replicate m (Value.int .u8 0)).toArray 5 (0,0)):=by rw [hW1,hz];exact heap_alloc_new w _
   have hBW:Below w.heap.size w W1:=by rw [hW1];exact below_alloc (Below.refl _ _) _
   have hcs:=copy_src (Kd.C_take (Kd.C_below hr0 hBW) hml) w.heap.size
   have htl:((l0.take m).map (Value.int .u8)).length=m:=by rw [List.length_map,List.length_take];omega
   have HW1:=z_ hW1
   have HM:=z_ hm
   have HML:=z_ hml
   have HTL:=z_ htl
   have HBW:=z_ hBW
   have HT:=z_ HTAIL
   have HCS:=z_ hcs
   have H1C:=z_ (show ∀v∈(l0.take m).map (Value.int .u8),v.oneCell'=true from fun v hv=>by obtain ⟨x,_,rfl⟩:=List.mem_map.1 hv;rfl)
   clear h hr0 hc0 hge h1 hlb hm hml htl hBW HTAIL hcs hz hW1
   obtain ⟨ov,hov⟩ : ∃ov,ov=a1%8:=⟨_,rfl⟩
   have hand:=and7 a1
   rw [<-hov] at hand
   have ov0:0<=ov:=by omega
   have ov8:ov<8:=by omega
   have HOV:=z_ hov
   clear hov
   by_cases hz:0<ov
   ·have hdv:decide (0<ov)=true:=decide_eq_true hz
    have HZ:=z_ hz
    clear hz
    go_enter Tryz.func62,Tryz.ntmps62
    go_wp2_with (first|((with_reducible refine gate_builtin (b:=.copy) (xs:=#[.tmp 21,.tmp 22]) rfl ?_);rw [<-HW1.out];go_must (refine wpList_copy_splice rfl (.tmp 21) (.tmp 22) 23 23 rfl 5 Tryz.underlying23 (by kernel_rfl) (some ⟨w.heap.size,0,none⟩) A0 m m l0.length c0 rfl rfl w.heap.size 0 (List.replicate m (.int .u8 0)) 5 HT.out ((l0.take m).map (Value.int .u8)) (HTL.out.trans (Nat.min_eq_right HML.out).symm) HCS.out (by rw [HTL.out];simp) H1C.out w.heap.size _ HBW.out (Nat.le_refl _) ?_;intro w2 HG2 hB2;rw [HTL.out];have HTB:=z_ (IsBytes.of_splice HG2.out);have HB2:=z_ hB2;clear HG2 hB2 hm1 hmk ha1 ha2 hl2 hd hd1)))
    obtain ⟨xs,hxs⟩ : ∃xs,xs=l0.take m:=⟨_,rfl⟩
    have hxl:xs.length=m:=by have:=HML.out;rw [hxs,List.length_take];omega
    have hTB:IsBytes w2 w.heap.size 5 xs:=by have:=HTB.out;rw [<-hxs,hxl,Nat.sub_self,List.replicate_zero,List.append_nil] at this;exact this
    have HTX:=z_ hTB
    have HXS:=z_ hxs
    obtain ⟨g,hg⟩ : ∃g,g=w.heap.size:=⟨_,rfl⟩
    rw [<-hg] at HTX
    rw [<-hg]
    have HG:=z_ hg
    clear hTB hxs hg HTB
    refine still_tail_at 11 (by kernel_rfl) (by kernel_rfl) (fun W hW=>?_)
    replace HTX:Aside0 (IsBytes W g 5 xs):=⟨by rw [hW];exact HTX.out⟩
    replace HB2:Aside0 (Below w.heap.size w W):=⟨by rw [hW];exact below_drew1 HB2.out⟩
    clear hW
    obtain ⟨j,hj⟩ : ∃j,j=m-1:=⟨_,rfl⟩
    have hjm:(m:Int)-1=(j:Int):=by omega
    have wj:IntKind.i64.wrap (j:Int)=(j:Int):=IntWalk.i64_in _ ⟨by omega,by omega⟩
    have qj:(j:Int)<(m:Int):=by omega
    have qj2:j<m:=by omega
    have pj:0<=(j:Int):=by omega
    have hc:=HTX.out.cell j (by omega)
    have hf:=HTX.out.frozen j
    obtain ⟨x,hx⟩ : ∃x,x=xs.getD j 0:=⟨_,rfl⟩
    rw [<-hx] at hc
    obtain ⟨s,hs⟩ : ∃s,s=8-ov:=⟨_,rfl⟩
    have hs2:8-ov=s:=hs.symm
    have ws:IntKind.i64.wrap s=s:=IntWalk.i64_in _ ⟨by omega,by omega⟩
    have s0:0<=s:=by omega
    have s8:s<=8:=by omega
    have HS:=z_ hs
    have HX:=z_ hx
    have HJ:=z_ hj
    have HXL:=z_ hxl
    clear hj hx hs hxl ov0 ov8 hmi hm0
    simp only [List.take_succ_cons,List.take_zero,List.drop_succ_cons,List.drop_zero]
    repeat still_step
    refine wpStill_nil ?_
    go_wp2_with fail
    go_ret
    have hfin:firstBits l0 a1.toNat=xs.set j (Go.bits .and .u8 x (255*2^s.toNat%256)):=by
     have hm:=HML.out
     have hz:=HZ.out
     have ho:=HOV.out
     have h1:=HA1.out
     have hov:((a1.toNat%8:Nat):Int)=ov:=by omega
     unfold firstBits
     rw [if_neg (by omega),<-HM.out,<-HXS.out,<-HJ.out,<-HX.out,hov]
     unfold cutByte
     rw [<-HS.out]
    rw [hfin]
    have hge:w.heap.size<=g:=by rw [HG.out];exact Nat.le_refl _
    exact ⟨_,rfl,(HTX.out.set j _).R hge (by rw [List.length_set];exact HXL.out) (by have:=HML.out;have:=HL.out;unfold maxLen;omega),HB2.out.setCell (by show w.heap.size<=g;exact hge) _⟩
   ·have hdv:decide (0<ov)=false:=decide_eq_false hz
    have hov0:ov=0:=by omega
    have HZ:=z_ hov0
    clear hz hov0
    go_enter Tryz.func62,Tryz.ntmps62
    go_wp2_with (first|((with_reducible refine gate_builtin (b:=.copy) (xs:=#[.tmp 21,.tmp 22]) rfl ?_);rw [<-HW1.out];go_must (refine wpList_copy_splice rfl (.tmp 21) (.tmp 22) 23 23 rfl 5 Tryz.underlying23 (by kernel_rfl) (some ⟨w.heap.size,0,none⟩) A0 m m l0.length c0 rfl rfl w.heap.size 0 (List.replicate m (.int .u8 0)) 5 HT.out ((l0.take m).map (Value.int .u8)) (HTL.out.trans (Nat.min_eq_right HML.out).symm) HCS.out (by rw [HTL.out];simp) H1C.out w.heap.size _ HBW.out (Nat.le_refl _) ?_;intro w2 HG2 hB2;rw [HTL.out];have HTB:=z_ (IsBytes.of_splice HG2.out);have HB2:=z_ hB2;clear HG2 hB2 hm1 hmk ha1 ha2 hl2 hd hd1)))
    go_ret
    have hxl:(l0.take m).length=m:=by have:=HML.out;rw [List.length_take];omega
    have hTB:IsBytes w2 w.heap.size 5 (l0.take m):=by have:=HTB.out;rw [hxl,Nat.sub_self,List.replicate_zero,List.append_nil] at this;exact this
    have hfin:firstBits l0 a1.toNat=l0.take m:=by
     unfold firstBits
     rw [if_pos (by have:=HZ.out;have:=HOV.out;have:=HA1.out;omega),<-HM.out]
    rw [hfin]
    exact ⟨_,rfl,hTB.R (Nat.le_refl _) hxl (by have:=HML.out;have:=HL.out;unfold maxLen;omega),HB2.out⟩
end Go.Proofs.YtdeneoknjeegbaaGreatDoor.P
end
section
namespace Go.Proofs.YtdeneoknjeegbaaGreatDoor.P
open Go.RowKit YtdeneoknjeegbaaGreatDoorW.PrintWords YtdeneoknjeegbaaGreatDoorW.PrintLast YtdeneoknjeegbaaGreatDoorW.PrintMore
attribute [local go_sem] max2_int min2_int max_two min_two max_three min_three max_four min_four
def annalsref01_Cut.f (a0:Int) (l1:List Int):Option (List Int):=(annalsref01_Sum.f l1).bind fun t272=>(if 0<=(mx 0 (mn a0 32)) then (if (mx 0 (mn a0 32))<=(t272.length:Int) then (some (t272.take ((mx 0 (mn a0 32)):Int).toNat)) else (none)) else (none))
set_option maxHeartbeats 8000000 in
set_option maxRecDepth 100000 in
theorem annalsref01_Cut.calls (a0:Int) (A1:Option Addr) (c1:Nat) (l1:List Int) (r:List Int) (w:World) (hr1:Kd.C (Kd.int .u8) w A1 l1.length l1) (hc1:l1.length<=c1) (h:annalsref01_Cut.f a0 l1=some r):
 Calls Tryz.prog 80 #[.int .i64 a0,.slice A1 l1.length c1] w fun e w'=>∃v0_:Value,e = .returned (v0_)/\Kd.R (Kd.int .u8) 5 w' w.heap.size (fun _=>True) v0_ r/\Below w.heap.size w w':=by
 have HR1:=z_ hr1
 have HC1:=z_ hc1
 clear hr1 hc1
 have HB:=z_ (Below.refl w.heap.size w)
 have H:((annalsref01_Sum.f l1).bind fun t272=>(if 0<=(mx 0 (mn a0 32)) then (if (mx 0 (mn a0 32))<=(t272.length:Int) then (some (t272.take ((mx 0 (mn a0 32)):Int).toNat)) else (none)) else (none)))=some r:=h
 clear h
 replace H:=Option.bind_eq_some_iff.mp H
 obtain ⟨t272,A30,H⟩:=H
 replace H:(if 0<=(mx 0 (mn a0 32)) then (if (mx 0 (mn a0 32))<=(t272.length:Int) then (some (t272.take ((mx 0 (mn a0 32)):Int).toNat)) else (none)) else (none))=some r:=H
 have A3:=z_ A30
 clear A30
 obtain ⟨ji4,hji4⟩ : ∃j_:Int,(mn a0 32)=j_:=⟨_,rfl⟩
 replace H:(if 0<=(mx 0 (ji4)) then (if (mx 0 (ji4))<=(t272.length:Int) then (some (t272.take ((mx 0 (ji4)):Int).toNat)) else (none)) else (none))=some r:=by first|(rw [hji4] at H;exact H)|(simp only [hji4] at H ⊢;exact H)
 (try rw [hji4] at A3)
 (try (have hji4h:ji4<=32:=by (rw [<-hji4];unfold mn;(repeat' split)<;>omega)))
 (try (have hji4g:ji4<=64:=by omega))
 have hji4_:(if 32<a0 then 32 else a0)=ji4:=hji4
 obtain ⟨ji5,hji5⟩ : ∃j_:Int,(mx 0 (ji4))=j_:=⟨_,rfl⟩
 replace H:(if 0<=(ji5) then (if (ji5)<=(t272.length:Int) then (some (t272.take ((ji5):Int).toNat)) else (none)) else (none))=some r:=by first|(rw [hji5] at H;exact H)|(simp only [hji5] at H ⊢;exact H)
 (try rw [hji5] at A3)
 have hji5_:(if 0<(ji4) then (ji4) else 0)=ji5:=hji5
 by_cases c6:0<=(ji5)
 ·rw [if_pos c6] at H
  have c6b0:=eq_true c6
  have c6b1:decide (0<=(ji5))=true:=decide_eq_true c6
  clear c6
  by_cases c7:(ji5)<=(t272.length:Int)
  ·rw [if_pos c7] at H
   have c7b0:=eq_true c7
   have c7b1:decide ((ji5)<=(t272.length:Int))=true:=decide_eq_true c7
   clear c7
   obtain ⟨y275,hy275⟩ : ∃y_:List Int,y_=(t272.take ((ji5):Int).toNat):=⟨_,rfl⟩
   replace H:(some y275)=some r:=by first|(rw [hy275];with_reducible exact H)|(have H2_:=(Option.bind_some _ _).symm.trans H;rw [hy275];with_reducible exact H2_)|(have H2_:=(Option.bind_some _ _).symm.trans H;with_reducible exact H2_)|with_reducible exact H|(rw [hy275];exact H)|exact H
   have Ny275:=z_ hy275
   clear hy275
   obtain rfl:=Option.some.inj H
   go_enter Tryz.func80,Tryz.ntmps80
   go_wp2_with (first|((with_reducible refine gate_callee (f:=86) rfl ?_);refine goesL_ (some 6) rfl rfl Tryz.func86 (by kernel_rfl) rfl #[.slice A1 l1.length c1] rfl (by (try simp only [List.map_toArray,List.map_cons,List.map_nil]);first|done|rfl|(simp only [List.length_drop,List.length_take];rfl)) ?_;(with_reducible refine (annalsref01_Sum.calls _ _ l1 t272 _ ?side1 ?side2 A3.out).mono ?_);(case side1=>repeat (first|exact HR1.out|(with_reducible refine Kd.C_alloc ?_ _)|(with_reducible refine Kd.C_drewN ?_ _)|(with_reducible refine Kd.C_drew ?_)));(case side2=>exact HC1.out);rintro e w8 ⟨v273,rfl,ho0,hb⟩;refine ⟨_,rfl,?_⟩;have n0_:=z_ (Kd.R_lower ho0 (below_size (by repeat (first|(with_reducible first|exact HB.out|apply below_alloc|apply pw_below_drewN|apply below_drew1)|exact HB.out))));have n1_:=z_ (below_step (by repeat (first|(with_reducible first|exact HB.out|apply below_alloc|apply pw_below_drewN|apply below_drew1)|exact HB.out)) hb);clear HB;have HO274:=n0_;have HB:=n1_;clear n0_ n1_;(try clear hb);(try clear hb2);(try clear hk);(try clear hi);(try clear ho0);obtain ⟨Ao9,co9,eo9⟩:=Kd.R_slice HO274.out;subst eo9;have q10:((ji5):Int)<=((t272.length:Int):Int):=of_decide_eq_true (by first|(with_reducible assumption)|assumption);obtain ⟨i010,hi010,_,hsz10,_⟩:=info_parts info5;have hcut10:=cut_to (P:=Tryz.prog) 23 5 .i64 Tryz.underlying23 hi010 Ao9 t272.length co9 (ji5) (of_decide_eq_true (by first|(with_reducible assumption)|assumption)) q10 (Kd.R_reads' HO274.out).2.1;have hr10:=Kd.R_take (m:=((ji5):Int).toNat) HO274.out (by omega);have hy10:y275.length=((ji5):Int).toNat:=(by rw [Ny275.out,List.length_take];omega);rw [<-Ny275.out] at hr10;rw [<-hy10] at hr10 hcut10;clear hy10 hi010 hsz10 HO274;have HO277:=z_ hr10;clear hr10;replace q10:=eq_true q10))
   go_ret
   exact ⟨_,by first|rfl|(simp [errW_none,errW_some]<;>rfl)|(simp only [<-hji4,<-hji5];first|rfl|(simp [errW_none,errW_some]<;>rfl))|(simp [*,errW_none,errW_some]<;>rfl),by (with_reducible repeat (first|apply Kd.R_alloc|apply Kd.R_drewN|apply Kd.R_drew));exact HO277.out,by repeat (first|(with_reducible first|exact HB.out|apply below_alloc|apply pw_below_drewN|apply below_drew1)|exact HB.out)⟩
  ·rw [if_neg c7] at H
   exact absurd H (by simp)
 ·rw [if_neg c6] at H
  exact absurd H (by simp)
mutual
def annalsref02_Text.j0:Nat->Int->List (List Int)->Bool->Option (List Int×Int)
 | 0,_,_,_=>none
 | k+1,x0,x1,x14=>if x14=true then (some (([]:List Int),1)) else (annalsref02_Text.l0 k (([(x0)%256]:List Int)) x1 (x1.length:Int) 0)
def annalsref02_Text.l0:Nat->List Int->List (List Int)->Int->Int->Option (List Int×Int)
 | 0,_,_,_,_=>none
 | k+1,x6,x18,x19,x20=>if x20<x19 then (if 0<=x20 then (if x20<(x18.length:Int) then (if ((rd_L1 x18 x20).length:Int)>65535 then (some (([]:List Int),4)) else ((some (([(((rd_L1 x18 x20).length:Int)/256)%256,(((rd_L1 x18 x20).length:Int))%256]:List Int):List Int)).bind fun y259=>(if x6.length+y259.length<140737488355328 then ((some (x6++y259:List Int)).bind fun y262=>(if y262.length+(rd_L1 x18 x20).length<140737488355328 then (annalsref02_Text.l0 k (y262++(rd_L1 x18 x20)) x18 x19 (wrap64 (x20+1))) else (none))) else (none)))) else (none)) else (none)) else (some (x6,0))
end
def annalsref02_Text.f (k:Nat) (a0:Int) (l1:List (List Int)):Option (List Int×Int):=if a0<0 then (annalsref02_Text.j0 k a0 l1 true) else (annalsref02_Text.j0 k a0 l1 (decide (a0>255)))
set_option maxHeartbeats 8000000 in
set_option maxRecDepth 100000 in
theorem annalsref02_Text.calls (k:Nat) (a0:Int) (A1:Option Addr) (c1:Nat) (l1:List (List Int)) (r1:List Int) (r2:Int) (w:World) (hr1:Kd.C (Kd.slice 5 (Kd.int .u8)) w A1 l1.length l1) (hc1:l1.length<=c1) (h:annalsref02_Text.f k a0 l1=some (r1,r2)):
 Calls Tryz.prog 79 #[.int .i64 a0,.slice A1 l1.length c1] w fun e w'=>∃v0_:Value,e = .returned (.tuple #[v0_,.int .i64 r2])/\Kd.R (Kd.int .u8) 5 w' w.heap.size (fun _=>True) v0_ r1/\Below w.heap.size w w':=by
 have HR1:=z_ hr1
 have HC1:=z_ hc1
 clear hr1 hc1
 have HB:=z_ (Below.refl w.heap.size w)
 have H:(if a0<0 then (annalsref02_Text.j0 k a0 l1 true) else (annalsref02_Text.j0 k a0 l1 (decide (a0>255))))=some (r1,r2):=h
 clear h
 have HC3:=z_ H
 clear H
 go_enter Tryz.func79,Tryz.ntmps79
 go_upto_region 1 with (fail)
 go_cut [14] (fun v14 wc=>∃(kq:Nat) (x14_2:Bool),v14 = .bool x14_2/\Aside0 (annalsref02_Text.j0 kq a0 l1 x14_2=some (r1,r2))/\Aside0 (kq<=k)/\Aside0 (Below w.heap.size w wc))
 case first=>
  have H:=HC3.out
  clear HC3
  by_cases c4:a0<0
  ·rw [if_pos c4] at H
   have c4b0:decide (a0<0)=true:=decide_eq_true c4
   clear c4
   (first|rw [c4b0]|(simp only [i64_w,i32_w];rw [c4b0])|skip)
   have H':=z_ H
   clear H
   go_wp2
   go_meet
   case rel=>exact ⟨_,(true),(by first|rfl|(simp;done)|(simp [*];done)),H',⟨by first|omega|exact Nat.le_refl _⟩,⟨by repeat (first|(with_reducible first|exact HB.out|apply below_alloc|apply pw_below_drewN|apply below_drew1)|exact HB.out)⟩⟩
  ·rw [if_neg c4] at H
   have c4b0:decide (a0<0)=false:=decide_eq_false c4
   clear c4
   (first|rw [c4b0]|(simp only [i64_w,i32_w];rw [c4b0])|skip)
   have H':=z_ H
   clear H
   go_wp2
   go_meet
   case rel=>exact ⟨_,(decide (a0>255)),(by first|rfl|(simp;done)|(simp [*];done)),H',⟨by first|omega|exact Nat.le_refl _⟩,⟨by repeat (first|(with_reducible first|exact HB.out|apply below_alloc|apply pw_below_drewN|apply below_drew1)|exact HB.out)⟩⟩
 case rest=>
  clear HC3
  try clear c1
  try clear p2
  try clear c4
  try clear c4b0
  obtain ⟨kq,x14_2,rfl,HA,HJ2,HB⟩:=hcut
  cases kq with
  | zero=>exact absurd HA.out (by simp [annalsref02_Text.j0])
  | succ kj2=>
    have H:=HA.out
    clear HA
    simp only [annalsref02_Text.j0] at H
    by_cases c5:x14_2=true
    ·subst c5
     have H1:(some (([]:List Int),1))=some (r1,r2):=by rw [if_pos rfl] at H;exact H
     clear H
     have H:=H1
     clear H1
     simp only [Option.some.injEq,Prod.mk.injEq] at H
     obtain ⟨rfl,rfl⟩:=H
     go_wp2
     go_ret2
     exact ⟨_,by first|rfl|(simp [errW_none,errW_some]<;>rfl)|(simp [*,errW_none,errW_some]<;>rfl),by first|exact Kd.R_nil _ _ _ _ _|exact Kd.N_nil _ _ _ _ _|exact Kd.V_nil _ _ _ _ _|exact Kd.Q_nil _ _ _ _ _|exact Kd.S_nil _ _ _ _ _,by repeat (first|(with_reducible first|exact HB.out|apply below_alloc|apply pw_below_drewN|apply below_drew1)|exact HB.out)⟩
    ·replace c5:=Bool.eq_false_iff.mpr c5
     subst c5
     have H1:(annalsref02_Text.l0 kj2 (([(a0)%256]:List Int)) l1 (l1.length:Int) 0)=some (r1,r2):=by rw [if_neg (show ¬(false=true) by decide)] at H;exact H
     clear H
     have H:=H1
     clear H1
     obtain ⟨y255,hy255⟩ : ∃y_:List Int,y_=(([(a0)%256]:List Int)):=⟨_,rfl⟩
     replace H:(annalsref02_Text.l0 kj2 y255 l1 (l1.length:Int) 0)=some (r1,r2):=by first|(rw [hy255];with_reducible exact H)|(have H2_:=(Option.bind_some _ _).symm.trans H;rw [hy255];with_reducible exact H2_)|(have H2_:=(Option.bind_some _ _).symm.trans H;with_reducible exact H2_)|with_reducible exact H|(rw [hy255];exact H)|exact H
     have Ny255:=z_ hy255
     clear hy255
     have H':=z_ H
     clear H
     go_wp2_with (first|((with_reducible refine gate_dst (N:=17) rfl ?_);refine Kd.R_lit (Kd.int .u8) _ 5 ?hg (N:=17) ?hd (xs:=([(a0)%256]:List Int)) (inner:=[.int .u8 ((a0)%256)]) (ok:=fun _=>True) (okp:=fun _=>True) ?hr ?hp (fun _ hk=>hk) trivial (Below.refl _ _) (Nat.le_refl _) (by simp) ?_;(case hd=>rfl);(case hg=>rfl);(case hr=>first|(go_simp;done)|(go_simp;rfl));(case hp=>exact (Reps.one (show Kd.M (Kd.int .u8) _ _ _ ((a0)%256) [.int .u8 ((a0)%256)] from rfl) (Reps.none _ _)));intro v256 w6 ho7 hb hg_ hnew_;clear hg_ hnew_;(first|rw [<-Ny255.out] at ho7|(simp only [Int.reduceToNat] at ho7;rw [<-Ny255.out] at ho7));have n0_:=z_ (Kd.R_lower ho7 (below_size (by repeat (first|(with_reducible first|exact HB.out|apply below_alloc|apply pw_below_drewN|apply below_drew1)|exact HB.out))));have n1_:=z_ (below_step (by repeat (first|(with_reducible first|exact HB.out|apply below_alloc|apply pw_below_drewN|apply below_drew1)|exact HB.out)) hb);clear HB;have HO257:=n0_;have HB:=n1_;clear n0_ n1_;clear hb ho7))
     go_loopg [6,20] kj2 (fun kq v6 v20 w'=>∃(x6_2:List Int) (x20_2:Int),v20 = .int .i64 x20_2/\Aside0 (annalsref02_Text.l0 kq x6_2 l1 (l1.length:Int) x20_2=some (r1,r2))/\Aside0 (kq<=kj2)/\Aside0 (Kd.R (Kd.int .u8) 5 w' w.heap.size (fun _=>True) v6 x6_2)/\Aside0 (Below w.heap.size w w'))
     case atStart=>exact ⟨(y255),(0),(by first|rfl|(simp;done)|(simp [*];done)),H',⟨Nat.le_refl _⟩,⟨by (with_reducible repeat (first|apply Kd.R_alloc|apply Kd.R_drewN|apply Kd.R_drew));exact HO257.out⟩,⟨by repeat (first|(with_reducible first|exact HB.out|apply below_alloc|apply pw_below_drewN|apply below_drew1)|exact HB.out)⟩⟩
     case round=>
      clear H'
      try clear c1
      try clear p2
      try clear c4
      try clear c4b0
      try clear c5
      try clear c7
      try clear p2
      obtain ⟨x6_2,x20_2,rfl,HA,HK2,HO_6,HB⟩:=hrel
      cases gk with
      | zero=>exact absurd HA.out (by simp [annalsref02_Text.l0])
      | succ k2=>
        have H:=HA.out
        clear HA
        simp only [annalsref02_Text.l0] at H
        by_cases c8:x20_2<(l1.length:Int)
        ·rw [if_pos c8] at H
         have c8b0:decide (x20_2<(l1.length:Int))=true:=decide_eq_true c8
         clear c8
         by_cases c9:0<=x20_2
         ·rw [if_pos c9] at H
          have c9b0:decide (0<=x20_2)=true:=decide_eq_true c9
          clear c9
          by_cases c10:x20_2<(l1.length:Int)
          ·rw [if_pos c10] at H
           have c10b0:decide (x20_2<(l1.length:Int))=true:=decide_eq_true c10
           clear c10
           by_cases c11:((rd_L1 l1 x20_2).length:Int)>65535
           ·rw [if_pos c11] at H
            have c11b0:decide (65535<((rd_L1 l1 x20_2).length:Int))=true:=decide_eq_true c11
            have c11b1:decide (65535<(rd_L1 l1 x20_2).length)=true:=decide_eq_true (by omega)
            clear c11
            simp only [Option.some.injEq,Prod.mk.injEq] at H
            obtain ⟨rfl,rfl⟩:=H
            have p258:0<=(x20_2:Int):=of_decide_eq_true (by first|(with_reducible assumption)|assumption)
            have q258:x20_2<(l1.length:Int):=of_decide_eq_true (by first|(with_reducible assumption)|assumption)
            obtain ⟨ad258,A258_0,c258_0,e258,hx258_0,hl258_0,hi258_0⟩:=at_L1 HR1.out x20_2 p258 q258
            cases e258
            replace hx258_0:=(HB.out.cell (World.block_lt_of_cell? w _ hx258_0)).trans hx258_0
            have HR258_0:=z_ hi258_0
            have HC258_0:=z_ hl258_0
            clear hi258_0 hl258_0
            replace p258:=eq_true p258
            replace q258:=eq_true q258
            go_wp2
            go_ret2
            exact ⟨_,by first|rfl|(simp [errW_none,errW_some]<;>rfl)|(simp [*,errW_none,errW_some]<;>rfl),by first|exact Kd.R_nil _ _ _ _ _|exact Kd.N_nil _ _ _ _ _|exact Kd.V_nil _ _ _ _ _|exact Kd.Q_nil _ _ _ _ _|exact Kd.S_nil _ _ _ _ _,by repeat (first|(with_reducible first|exact HB.out|apply below_alloc|apply pw_below_drewN|apply below_drew1)|exact HB.out)⟩
           ·rw [if_neg c11] at H
            have c11b0:decide (65535<((rd_L1 l1 x20_2).length:Int))=false:=decide_eq_false c11
            have c11b1:decide (65535<(rd_L1 l1 x20_2).length)=false:=decide_eq_false (by omega)
            clear c11
            obtain ⟨y259,hy259⟩ : ∃y_:List Int,y_=(([(((rd_L1 l1 x20_2).length:Int)/256)%256,(((rd_L1 l1 x20_2).length:Int))%256]:List Int)):=⟨_,rfl⟩
            replace H:(if x6_2.length+y259.length<140737488355328 then ((some (x6_2++y259:List Int)).bind fun y262=>(if y262.length+(rd_L1 l1 x20_2).length<140737488355328 then (annalsref02_Text.l0 k2 (y262++(rd_L1 l1 x20_2)) l1 (l1.length:Int) (wrap64 (x20_2+1))) else (none))) else (none))=some (r1,r2):=by first|(rw [hy259];with_reducible exact H)|(have H2_:=(Option.bind_some _ _).symm.trans H;rw [hy259];with_reducible exact H2_)|(have H2_:=(Option.bind_some _ _).symm.trans H;with_reducible exact H2_)|with_reducible exact H|(rw [hy259];exact H)|exact H
            have Ny259:=z_ hy259
            clear hy259
            by_cases c12:x6_2.length+y259.length<140737488355328
            ·rw [if_pos c12] at H
             have LMc12:=z_ c12
             clear c12
             obtain ⟨y262,hy262⟩ : ∃y_:List Int,y_=(x6_2++y259):=⟨_,rfl⟩
             replace H:(if y262.length+(rd_L1 l1 x20_2).length<140737488355328 then (annalsref02_Text.l0 k2 (y262++(rd_L1 l1 x20_2)) l1 (l1.length:Int) (wrap64 (x20_2+1))) else (none))=some (r1,r2):=by first|(rw [hy262];with_reducible exact H)|(have H2_:=(Option.bind_some _ _).symm.trans H;rw [hy262];with_reducible exact H2_)|(have H2_:=(Option.bind_some _ _).symm.trans H;with_reducible exact H2_)|with_reducible exact H|(rw [hy262];exact H)|exact H
             have Ny262:=z_ hy262
             clear hy262
             by_cases c13:y262.length+(rd_L1 l1 x20_2).length<140737488355328
             ·rw [if_pos c13] at H
              have LMc13:=z_ c13
              clear c13
              obtain ⟨y265,hy265⟩ : ∃y_:List Int,y_=(y262++(rd_L1 l1 x20_2)):=⟨_,rfl⟩
              replace H:(annalsref02_Text.l0 k2 y265 l1 (l1.length:Int) (wrap64 (x20_2+1)))=some (r1,r2):=by first|(rw [hy265];with_reducible exact H)|(have H2_:=(Option.bind_some _ _).symm.trans H;rw [hy265];with_reducible exact H2_)|(have H2_:=(Option.bind_some _ _).symm.trans H;with_reducible exact H2_)|with_reducible exact H|(rw [hy265];exact H)|exact H
              have Ny265:=z_ hy265
              clear hy265
              have H':=z_ H
              clear H
              have p258:0<=(x20_2:Int):=of_decide_eq_true (by first|(with_reducible assumption)|assumption)
              have q258:x20_2<(l1.length:Int):=of_decide_eq_true (by first|(with_reducible assumption)|assumption)
              obtain ⟨ad258,A258_0,c258_0,e258,hx258_0,hl258_0,hi258_0⟩:=at_L1 HR1.out x20_2 p258 q258
              cases e258
              replace hx258_0:=(HB.out.cell (World.block_lt_of_cell? w _ hx258_0)).trans hx258_0
              have HR258_0:=z_ hi258_0
              have HC258_0:=z_ hl258_0
              clear hi258_0 hl258_0
              replace p258:=eq_true p258
              replace q258:=eq_true q258
              go_wp2_with (first|((with_reducible refine gate_dst (N:=35) rfl ?_);refine Kd.R_lit (Kd.int .u8) _ 5 ?hg (N:=35) ?hd (xs:=([(((rd_L1 l1 x20_2).length:Int)/256)%256,(((rd_L1 l1 x20_2).length:Int))%256]:List Int)) (inner:=[.int .u8 ((((rd_L1 l1 x20_2).length:Int)/256)%256),.int .u8 ((((rd_L1 l1 x20_2).length:Int))%256)]) (ok:=fun _=>True) (okp:=fun _=>True) ?hr ?hp (fun _ hk=>hk) trivial (Below.refl _ _) (Nat.le_refl _) (by simp) ?_;(case hd=>rfl);(case hg=>rfl);(case hr=>first|(go_simp;done)|(go_simp;rfl));(case hp=>exact (Reps.one (show Kd.M (Kd.int .u8) _ _ _ ((((rd_L1 l1 x20_2).length:Int)/256)%256) [.int .u8 ((((rd_L1 l1 x20_2).length:Int)/256)%256)] from rfl) (Reps.one (show Kd.M (Kd.int .u8) _ _ _ ((((rd_L1 l1 x20_2).length:Int))%256) [.int .u8 ((((rd_L1 l1 x20_2).length:Int))%256)] from rfl) (Reps.none _ _))));intro v260 w14 ho15 hb hg_ hnew_;clear hg_ hnew_;(first|rw [<-Ny259.out] at ho15|(simp only [Int.reduceToNat] at ho15;rw [<-Ny259.out] at ho15));have n0_:=z_ (Kd.R_elder' (by (with_reducible repeat (first|apply Kd.R_alloc|apply Kd.R_drewN|apply Kd.R_drew));exact HO_6.out) (Kd.R_base ho15) hb);have n1_:=z_ (Kd.R_lower (Kd.R_new' ho15 (Kd.R_lt (by (with_reducible repeat (first|apply Kd.R_alloc|apply Kd.R_drewN|apply Kd.R_drew));exact HO_6.out))) (below_size (by repeat (first|(with_reducible first|exact HB.out|apply below_alloc|apply pw_below_drewN|apply below_drew1)|exact HB.out))));have n2_:=z_ (below_step (by repeat (first|(with_reducible first|exact HB.out|apply below_alloc|apply pw_below_drewN|apply below_drew1)|exact HB.out)) hb);clear HO_6;clear HB;have HO_6:=n0_;have HO261:=n1_;have HB:=n2_;clear n0_ n1_ n2_;clear hb ho15;obtain ⟨Ao17,co17,eo17⟩:=Kd.R_slice HO261.out;subst eo17)|((with_reducible refine gate_builtin (b:=.append) (xs:=#[.tmp 27,.tmp 35]) rfl ?_);at_builtin;refine Kd.R_append_rows (Kd.int .u8) (w0:=w) w.heap.size rfl (.tmp 27) (.tmp 35) 23 5 (.int .u8 0) 1 rfl Tryz.underlying23 info5 rfl (by decide) (by omega) u6 x6_2 y259 _ _ _ (fun k_=>some k_≠(.slice Ao17 y259.length co17:Value).ownBlock) (fun _=>False) rfl rfl ?aO ?aR (fun _ _ h=>h) (fun _ h=>h.elim) ?aF ?aB ?aS ?aL ?_;(case aR=>repeat (first|exact (Kd.R_reads' HO261.out).2.2|(with_reducible refine Kd.C_alloc ?_ _)|(with_reducible refine Kd.C_drewN ?_ _)|(with_reducible refine Kd.C_drew ?_)));(case aB=>exact (by repeat (first|(with_reducible first|exact HB.out|apply below_alloc|apply pw_below_drewN|apply below_drew1)|exact HB.out)));(case aF=>exact (fun k_ hk=>Kd.fresh' (Kd.R_lt (by (with_reducible repeat (first|apply Kd.R_alloc|apply Kd.R_drewN|apply Kd.R_drew));exact HO261.out)) k_ hk));(case aO=>exact (by (with_reducible repeat (first|apply Kd.R_alloc|apply Kd.R_drewN|apply Kd.R_drew));exact Kd.R_mono HO_6.out (fun _ hk=>hk.2)));(case aS=>exact (below_size (by repeat (first|(with_reducible first|exact HB.out|apply below_alloc|apply pw_below_drewN|apply below_drew1)|exact HB.out))));(case aL=>have:=LMc12.out;omega);intro v263 w16 ho hb hg hat;rw [<-Ny262.out] at ho;have n0_:=z_ (Kd.R_after (ok:=(fun _=>True)) (by (with_reducible repeat (first|apply Kd.R_alloc|apply Kd.R_drewN|apply Kd.R_drew));exact HO261.out) hg hat);have n1_:=z_ (hb);have n2_:=z_ (ho);clear HO261;clear HB;clear HO_6;have HO261:=n0_;have HB:=n1_;have HO264:=n2_;clear n0_ n1_ n2_;clear ho hb hg hat)|((with_reducible refine gate_builtin (b:=.append) (xs:=#[.tmp 36,.tmp 37]) rfl ?_);at_builtin;refine Kd.R_append_rows (Kd.int .u8) (w0:=w) w.heap.size rfl (.tmp 36) (.tmp 37) 23 5 (.int .u8 0) 1 rfl Tryz.underlying23 info5 rfl (by decide) (by omega) v263 y262 (rd_L1 l1 x20_2) _ _ _ (fun k_=>some k_≠(.slice Ao17 y259.length co17:Value).ownBlock) (fun _=>False) rfl rfl ?aO ?aR (fun _ _ h=>h) (fun _ h=>h.elim) ?aF ?aB ?aS ?aL ?_;(case aR=>repeat (first|exact (Kd.C_below HR258_0.out HB.out)|(with_reducible refine Kd.C_alloc ?_ _)|(with_reducible refine Kd.C_drewN ?_ _)|(with_reducible refine Kd.C_drew ?_)));(case aB=>exact (by repeat (first|(with_reducible first|exact HB.out|apply below_alloc|apply pw_below_drewN|apply below_drew1)|exact HB.out)));(case aF=>exact (fun k_ hk=>Kd.fresh' (Kd.R_lt (by (with_reducible repeat (first|apply Kd.R_alloc|apply Kd.R_drewN|apply Kd.R_drew));exact HO261.out)) k_ hk));(case aO=>exact (by (with_reducible repeat (first|apply Kd.R_alloc|apply Kd.R_drewN|apply Kd.R_drew));exact HO264.out));(case aS=>exact (below_size (by repeat (first|(with_reducible first|exact HB.out|apply below_alloc|apply pw_below_drewN|apply below_drew1)|exact HB.out))));(case aL=>have:=LMc13.out;omega);intro v266 w18 ho hb hg hat;rw [<-Ny265.out] at ho;have n0_:=z_ (Kd.R_after (ok:=(fun _=>True)) (by (with_reducible repeat (first|apply Kd.R_alloc|apply Kd.R_drewN|apply Kd.R_drew));exact HO261.out) hg hat);have n1_:=z_ (hb);have n2_:=z_ (ho);clear HO261;clear HB;clear HO264;have HO261:=n0_;have HB:=n1_;have HO267:=n2_;clear n0_ n1_ n2_;clear ho hb hg hat))
              go_roundg k2
              case measure=>have:=HJ2.out;have:=HK2.out;omega
              case rel=>exact ⟨(y265),(wrap64 (x20_2+1)),(by first|rfl|(simp;done)|(simp [*];done)),H',⟨by have:=HJ2.out;have:=HK2.out;omega⟩,⟨by (with_reducible repeat (first|apply Kd.R_alloc|apply Kd.R_drewN|apply Kd.R_drew));exact Kd.R_mono HO267.out (fun _ hk=>trivial)⟩,⟨by repeat (first|(with_reducible first|exact HB.out|apply below_alloc|apply pw_below_drewN|apply below_drew1)|exact HB.out)⟩⟩
             ·rw [if_neg c13] at H
              exact absurd H (by simp)
            ·rw [if_neg c12] at H
             exact absurd H (by simp)
          ·rw [if_neg c10] at H
           exact absurd H (by simp)
         ·rw [if_neg c9] at H
          exact absurd H (by simp)
        ·rw [if_neg c8] at H
         have c8b0:decide (x20_2<(l1.length:Int))=false:=decide_eq_false c8
         clear c8
         simp only [Option.some.injEq,Prod.mk.injEq] at H
         obtain ⟨rfl,rfl⟩:=H
         go_wp2
         go_ret2
         exact ⟨_,by first|rfl|(simp [errW_none,errW_some]<;>rfl)|(simp [*,errW_none,errW_some]<;>rfl),by (with_reducible repeat (first|apply Kd.R_alloc|apply Kd.R_drewN|apply Kd.R_drew));exact HO_6.out,by repeat (first|(with_reducible first|exact HB.out|apply below_alloc|apply pw_below_drewN|apply below_drew1)|exact HB.out)⟩
def annalsref02_Hash.f (k:Nat) (a0:Int) (a1:Int) (l2:List (List Int)):Option (List Int):=(annalsref02_Text.f k a1 l2).bind fun bt278=>(if bt278.2=0 then ((annalsref01_Cut.f a0 bt278.1).bind fun t282=>(some t282)) else (some ([]:List Int)))
set_option maxHeartbeats 8000000 in
set_option maxRecDepth 100000 in
theorem annalsref02_Hash.calls (k:Nat) (a0:Int) (a1:Int) (A2:Option Addr) (c2:Nat) (l2:List (List Int)) (r:List Int) (w:World) (hr2:Kd.C (Kd.slice 5 (Kd.int .u8)) w A2 l2.length l2) (hc2:l2.length<=c2) (h:annalsref02_Hash.f k a0 a1 l2=some r):
 Calls Tryz.prog 71 #[.int .i64 a0,.int .i64 a1,.slice A2 l2.length c2] w fun e w'=>∃v0_:Value,e = .returned (v0_)/\Kd.R (Kd.int .u8) 5 w' w.heap.size (fun _=>True) v0_ r/\Below w.heap.size w w':=by
 have HR2:=z_ hr2
 have HC2:=z_ hc2
 clear hr2 hc2
 have HB:=z_ (Below.refl w.heap.size w)
 have H:((annalsref02_Text.f k a1 l2).bind fun bt278=>(if bt278.2=0 then ((annalsref01_Cut.f a0 bt278.1).bind fun t282=>(some t282)) else (some ([]:List Int))))=some r:=h
 clear h
 replace H:=Option.bind_eq_some_iff.mp H
 obtain ⟨⟨t278,t279⟩,A40,H⟩:=H
 replace H:(if t279=0 then ((annalsref01_Cut.f a0 t278).bind fun t282=>(some t282)) else (some ([]:List Int)))=some r:=H
 have A4:=z_ A40
 clear A40
 by_cases c5:t279=0
 ·rw [if_pos c5] at H
  have c5b0:(t279==0)=true:=beq_iff_eq.mpr c5
  have c5b1:(t279 !=0)=false:=bne_eq_false_iff_eq.mpr c5
  clear c5
  replace H:=Option.bind_eq_some_iff.mp H
  obtain ⟨t282,A60,H⟩:=H
  replace H:(some t282)=some r:=H
  have A6:=z_ A60
  clear A60
  obtain rfl:=Option.some.inj H
  go_enter Tryz.func71,Tryz.ntmps71
  go_wp2_with (first|((with_reducible refine gate_callee (f:=79) rfl ?_);refine goesL_ (some 12) rfl rfl Tryz.func79 (by kernel_rfl) rfl #[.int .i64 a1,.slice A2 l2.length c2] rfl (by (try simp only [List.map_toArray,List.map_cons,List.map_nil]);first|done|rfl|(simp only [List.length_drop,List.length_take];rfl)) ?_;(with_reducible refine (annalsref02_Text.calls k a1 _ _ l2 t278 t279 _ ?side1 ?side2 A4.out).mono ?_);(case side1=>repeat (first|exact HR2.out|(with_reducible refine Kd.C_alloc ?_ _)|(with_reducible refine Kd.C_drewN ?_ _)|(with_reducible refine Kd.C_drew ?_)));(case side2=>exact HC2.out);rintro e w7 ⟨v280,rfl,ho0,hb⟩;refine ⟨_,rfl,?_⟩;have n0_:=z_ (Kd.R_lower ho0 (below_size (by repeat (first|(with_reducible first|exact HB.out|apply below_alloc|apply pw_below_drewN|apply below_drew1)|exact HB.out))));have n1_:=z_ (below_step (by repeat (first|(with_reducible first|exact HB.out|apply below_alloc|apply pw_below_drewN|apply below_drew1)|exact HB.out)) hb);clear HB;have HO281:=n0_;have HB:=n1_;clear n0_ n1_;(try clear hb);(try clear hb2);(try clear hk);(try clear hi);(try clear ho0);obtain ⟨Ao8,co8,eo8⟩:=Kd.R_slice HO281.out;subst eo8)|((with_reducible refine gate_callee (f:=80) rfl ?_);refine goesL_ (some 19) rfl rfl Tryz.func80 (by kernel_rfl) rfl #[.int .i64 a0,.slice Ao8 t278.length co8] rfl (by (try simp only [List.map_toArray,List.map_cons,List.map_nil]);first|done|rfl|(simp only [List.length_drop,List.length_take];rfl)) ?_;(with_reducible refine (annalsref01_Cut.calls a0 _ _ t278 t282 _ ?side1 ?side2 A6.out).mono ?_);(case side1=>repeat (first|exact (Kd.R_reads' HO281.out).2.2|(with_reducible refine Kd.C_alloc ?_ _)|(with_reducible refine Kd.C_drewN ?_ _)|(with_reducible refine Kd.C_drew ?_)));(case side2=>exact (Kd.R_reads' HO281.out).2.1);rintro e w9 ⟨v283,rfl,ho0,hb⟩;refine ⟨_,rfl,?_⟩;have n0_:=z_ (Kd.R_elder' (by (with_reducible repeat (first|apply Kd.R_alloc|apply Kd.R_drewN|apply Kd.R_drew));exact HO281.out) (Kd.R_base ho0) hb);have n1_:=z_ (Kd.R_lower (Kd.R_new' ho0 (Kd.R_lt (by (with_reducible repeat (first|apply Kd.R_alloc|apply Kd.R_drewN|apply Kd.R_drew));exact HO281.out))) (below_size (by repeat (first|(with_reducible first|exact HB.out|apply below_alloc|apply pw_below_drewN|apply below_drew1)|exact HB.out))));have n2_:=z_ (below_step (by repeat (first|(with_reducible first|exact HB.out|apply below_alloc|apply pw_below_drewN|apply below_drew1)|exact HB.out)) hb);clear HO281;clear HB;have HO281:=n0_;have HO284:=n1_;have HB:=n2_;clear n0_ n1_ n2_;(try clear hb);(try clear hb2);(try clear hk);(try clear hi);(try clear ho0)))
  go_ret
  exact ⟨_,by first|rfl|(simp [errW_none,errW_some]<;>rfl)|(simp [*,errW_none,errW_some]<;>rfl),by (with_reducible repeat (first|apply Kd.R_alloc|apply Kd.R_drewN|apply Kd.R_drew));exact Kd.R_mono HO284.out (fun _ hk=>trivial),by repeat (first|(with_reducible first|exact HB.out|apply below_alloc|apply pw_below_drewN|apply below_drew1)|exact HB.out)⟩
 ·rw [if_neg c5] at H
  have c5b0:(t279==0)=false:=beq_eq_false_iff_ne.mpr c5
  have c5b1:(t279 !=0)=true:=bne_iff_ne.mpr c5
  obtain rfl:=Option.some.inj H
  go_enter Tryz.func71,Tryz.ntmps71
  go_wp2_with (first|((with_reducible refine gate_callee (f:=79) rfl ?_);refine goesL_ (some 12) rfl rfl Tryz.func79 (by kernel_rfl) rfl #[.int .i64 a1,.slice A2 l2.length c2] rfl (by (try simp only [List.map_toArray,List.map_cons,List.map_nil]);first|done|rfl|(simp only [List.length_drop,List.length_take];rfl)) ?_;(with_reducible refine (annalsref02_Text.calls k a1 _ _ l2 t278 t279 _ ?side1 ?side2 A4.out).mono ?_);(case side1=>repeat (first|exact HR2.out|(with_reducible refine Kd.C_alloc ?_ _)|(with_reducible refine Kd.C_drewN ?_ _)|(with_reducible refine Kd.C_drew ?_)));(case side2=>exact HC2.out);rintro e w10 ⟨v280,rfl,ho0,hb⟩;refine ⟨_,rfl,?_⟩;have n0_:=z_ (Kd.R_lower ho0 (below_size (by repeat (first|(with_reducible first|exact HB.out|apply below_alloc|apply pw_below_drewN|apply below_drew1)|exact HB.out))));have n1_:=z_ (below_step (by repeat (first|(with_reducible first|exact HB.out|apply below_alloc|apply pw_below_drewN|apply below_drew1)|exact HB.out)) hb);clear HB;have HO281:=n0_;have HB:=n1_;clear n0_ n1_;(try clear hb);(try clear hb2);(try clear hk);(try clear hi);(try clear ho0)))
  go_ret
  exact ⟨_,by first|rfl|(simp [errW_none,errW_some]<;>rfl)|(simp [*,errW_none,errW_some]<;>rfl),by first|exact Kd.R_nil _ _ _ _ _|exact Kd.N_nil _ _ _ _ _|exact Kd.V_nil _ _ _ _ _|exact Kd.Q_nil _ _ _ _ _|exact Kd.S_nil _ _ _ _ _,by repeat (first|(with_reducible first|exact HB.out|apply below_alloc|apply pw_below_drewN|apply below_drew1)|exact HB.out)⟩
def annalsref02_Number.l0:Nat->Int->List Int->Int->Option (List Int)
 | 0,_,_,_=>none
 | k+1,x0,x3,x4=>if x4>=0 then (if 0<=x4 then (if x3.length<140737488355328 then (annalsref02_Number.l0 k x0 (x3++[(shr .u64 (IntKind.u64.wrap (x0)) x4)%256]) (wrap64 (x4-8))) else (none)) else (none)) else (some x3)
def annalsref02_Number.f (k:Nat) (a0:Int):Option (List Int):=annalsref02_Number.l0 k a0 ([]:List Int) 56
set_option maxHeartbeats 8000000 in
set_option maxRecDepth 100000 in
theorem annalsref02_Number.calls (k:Nat) (a0:Int) (r:List Int) (w:World) (h:annalsref02_Number.f k a0=some r):
 Calls Tryz.prog 78 #[.int .i64 a0] w fun e w'=>∃v0_:Value,e = .returned (v0_)/\Kd.R (Kd.int .u8) 5 w' w.heap.size (fun _=>True) v0_ r/\Below w.heap.size w w':=by
 have HB:=z_ (Below.refl w.heap.size w)
 have H:(annalsref02_Number.l0 k a0 ([]:List Int) 56)=some r:=h
 clear h
 have H':=z_ H
 clear H
 go_enter Tryz.func78,Tryz.ntmps78
 go_wp2
 go_loopg [3,4] k (fun kq v3 v4 w'=>∃(x3_1:List Int) (x4_1:Int),v4 = .int .i64 x4_1/\Aside0 (annalsref02_Number.l0 kq a0 x3_1 x4_1=some r)/\Aside0 (kq<=k)/\Aside0 (Kd.R (Kd.int .u8) 5 w' w.heap.size (fun _=>True) v3 x3_1)/\Aside0 (Below w.heap.size w w'))
 case atStart=>exact ⟨(([]:List Int)),(56),(by first|rfl|(simp;done)|(simp [*];done)),H',⟨Nat.le_refl _⟩,⟨by first|exact Kd.R_nil _ _ _ _ _|exact Kd.N_nil _ _ _ _ _|exact Kd.V_nil _ _ _ _ _|exact Kd.Q_nil _ _ _ _ _|exact Kd.S_nil _ _ _ _ _⟩,⟨by repeat (first|(with_reducible first|exact HB.out|apply below_alloc|apply pw_below_drewN|apply below_drew1)|exact HB.out)⟩⟩
 case round=>
  clear H'
  obtain ⟨x3_1,x4_1,rfl,HA,HK1,HO_3,HB⟩:=hrel
  cases gk with
  | zero=>exact absurd HA.out (by simp [annalsref02_Number.l0])
  | succ k1=>
    have H:=HA.out
    clear HA
    simp only [annalsref02_Number.l0] at H
    by_cases c2:x4_1>=0
    ·rw [if_pos c2] at H
     have c2b0:decide (0<=x4_1)=true:=decide_eq_true c2
     clear c2
     by_cases c3:0<=x4_1
     ·rw [if_pos c3] at H
      have c3b0:=eq_true c3
      have c3b1:decide (0<=x4_1)=true:=decide_eq_true c3
      clear c3
      obtain ⟨ji4,hji4⟩ : ∃j_:Int,(shr .u64 (IntKind.u64.wrap (a0)) x4_1)=j_:=⟨_,rfl⟩
      replace H:(if x3_1.length<140737488355328 then (annalsref02_Number.l0 k1 a0 (x3_1++[(ji4)%256]) (wrap64 (x4_1-8))) else (none))=some r:=by first|(rw [hji4] at H;exact H)|(simp only [hji4] at H ⊢;exact H)
      have hji4_:((IntKind.u64.wrap (a0))/2^min x4_1.toNat 64)=ji4:=hji4
      have hji4z:x4_1<=64->((IntKind.u64.wrap (a0))/2^x4_1.toNat)=ji4:=shr_small hji4
      by_cases c5:x3_1.length<140737488355328
      ·rw [if_pos c5] at H
       have LMc5:=z_ c5
       clear c5
       obtain ⟨y285,hy285⟩ : ∃y_:List Int,y_=(x3_1++[(ji4)%256]):=⟨_,rfl⟩
       replace H:(annalsref02_Number.l0 k1 a0 y285 (wrap64 (x4_1-8)))=some r:=by first|(rw [hy285];with_reducible exact H)|(have H2_:=(Option.bind_some _ _).symm.trans H;rw [hy285];with_reducible exact H2_)|(have H2_:=(Option.bind_some _ _).symm.trans H;with_reducible exact H2_)|with_reducible exact H|(rw [hy285];exact H)|exact H
       have Ny285:=z_ hy285
       clear hy285
       have H':=z_ H
       clear H
       go_wp2_with (first|((with_reducible refine gate_builtin (b:=.append) (xs:=#[.tmp 9,.tmp 15]) rfl ?_);at_builtin;refine Kd.R_append (Kd.int .u8) (w0:=w) w.heap.size rfl (.tmp 9) (.tmp 15) 23 5 (.int .u8 0) 1 rfl Tryz.underlying23 info5 rfl (by decide) (by omega) u3 x3_1 ((ji4)%256) [.int .u8 ((ji4)%256)] (fun _=>True) (fun _=>False) rfl rfl ?aP (fun _ hk=>hk.elim) ?aF ?aO ?aB ?aS ?aL ?_;(case aP=>exact rfl);(case aB=>exact (by repeat (first|(with_reducible first|exact HB.out|apply below_alloc|apply pw_below_drewN|apply below_drew1)|exact HB.out)));(case aF=>exact (fun _ _=>trivial));(case aO=>exact (by (with_reducible repeat (first|apply Kd.R_alloc|apply Kd.R_drewN|apply Kd.R_drew));exact HO_3.out));(case aS=>exact (below_size (by repeat (first|(with_reducible first|exact HB.out|apply below_alloc|apply pw_below_drewN|apply below_drew1)|exact HB.out))));(case aL=>have:=LMc5.out;omega);intro v286 w6 ho hb hg hat;rw [<-Ny285.out] at ho;have n0_:=z_ (hb);have n1_:=z_ (ho);clear HB;clear HO_3;have HB:=n0_;have HO287:=n1_;clear n0_ n1_;clear ho hb hg hat))
       go_roundg k1
       case measure=>have:=HK1.out;omega
       case rel=>exact ⟨(y285),(wrap64 (x4_1-8)),(by first|rfl|(simp;done)|(simp [*];done)),H',⟨by have:=HK1.out;omega⟩,⟨by (with_reducible repeat (first|apply Kd.R_alloc|apply Kd.R_drewN|apply Kd.R_drew));exact HO287.out⟩,⟨by repeat (first|(with_reducible first|exact HB.out|apply below_alloc|apply pw_below_drewN|apply below_drew1)|exact HB.out)⟩⟩
      ·rw [if_neg c5] at H
       exact absurd H (by simp)
     ·rw [if_neg c3] at H
      exact absurd H (by simp)
    ·rw [if_neg c2] at H
     have c2b0:decide (0<=x4_1)=false:=decide_eq_false c2
     clear c2
     obtain rfl:=Option.some.inj H
     go_wp2
     go_ret
     exact ⟨_,by first|rfl|(simp [errW_none,errW_some]<;>rfl)|(simp [*,errW_none,errW_some]<;>rfl),by (with_reducible repeat (first|apply Kd.R_alloc|apply Kd.R_drewN|apply Kd.R_drew));exact HO_3.out,by repeat (first|(with_reducible first|exact HB.out|apply below_alloc|apply pw_below_drewN|apply below_drew1)|exact HB.out)⟩
mutual
def annalsref03_First.l0:Nat->List Int->Int->List Int->Int->Option (List Int)
 | 0,_,_,_,_=>none
 | k+1,x0,x1,x5,x6=>if x6<x1 then (annalsref03_First.j1 k x0 x1 x5 x6 (decide ((wrap64 (Int.tdiv x6 8))<(x0.length:Int)))) else (annalsref03_First.j1 k x0 x1 x5 x6 false)
def annalsref03_First.j1:Nat->List Int->Int->List Int->Int->Bool->Option (List Int)
 | 0,_,_,_,_,_=>none
 | k+1,x0,x1,x5,x6,x17=>if x17=true then (if 0<=(wrap64 (Int.tdiv x6 8)) then (if (wrap64 (Int.tdiv x6 8))<(x0.length:Int) then (if (wrap64 (x1-x6))<8 then (if 0<=(wrap64 (8-(wrap64 (x1-x6)))) then (if x5.length<140737488355328 then (annalsref03_First.l0 k x0 x1 (x5++[shl .u8 (shr .u8 (rd x0 (wrap64 (Int.tdiv x6 8))) (wrap64 (8-(wrap64 (x1-x6))))) (wrap64 (8-(wrap64 (x1-x6))))]) (wrap64 (x6+8))) else (none)) else (none)) else (if x5.length<140737488355328 then (annalsref03_First.l0 k x0 x1 (x5++[rd x0 (wrap64 (Int.tdiv x6 8))]) (wrap64 (x6+8))) else (none))) else (none)) else (none)) else (some x5)
end
def annalsref03_First.f (k:Nat) (l0:List Int) (a1:Int):Option (List Int):=annalsref03_First.l0 k l0 a1 ([]:List Int) 0
set_option maxHeartbeats 8000000 in
set_option maxRecDepth 100000 in
theorem annalsref03_First.calls (k:Nat) (A0:Option Addr) (c0:Nat) (l0:List Int) (a1:Int) (r:List Int) (w:World) (hr0:Kd.C (Kd.int .u8) w A0 l0.length l0) (hc0:l0.length<=c0) (h:annalsref03_First.f k l0 a1=some r):
 Calls Tryz.prog 66 #[.slice A0 l0.length c0,.int .i64 a1] w fun e w'=>∃v0_:Value,e = .returned (v0_)/\Kd.R (Kd.int .u8) 5 w' w.heap.size (fun _=>True) v0_ r/\Below w.heap.size w w':=by
 have HR0:=z_ hr0
 have HC0:=z_ hc0
 clear hr0 hc0
 have HB:=z_ (Below.refl w.heap.size w)
 have H:(annalsref03_First.l0 k l0 a1 ([]:List Int) 0)=some r:=h
 clear h
 have H':=z_ H
 clear H
 go_enter Tryz.func66,Tryz.ntmps66
 go_wp2
 go_loopg [5,6] k (fun kq v5 v6 w'=>∃(x5_1:List Int) (x6_1:Int),v6 = .int .i64 x6_1/\Aside0 (annalsref03_First.l0 kq l0 a1 x5_1 x6_1=some r)/\Aside0 (kq<=k)/\Aside0 (Kd.R (Kd.int .u8) 5 w' w.heap.size (fun _=>True) v5 x5_1)/\Aside0 (Below w.heap.size w w'))
 case atStart=>exact ⟨(([]:List Int)),(0),(by first|rfl|(simp;done)|(simp [*];done)),H',⟨Nat.le_refl _⟩,⟨by first|exact Kd.R_nil _ _ _ _ _|exact Kd.N_nil _ _ _ _ _|exact Kd.V_nil _ _ _ _ _|exact Kd.Q_nil _ _ _ _ _|exact Kd.S_nil _ _ _ _ _⟩,⟨by repeat (first|(with_reducible first|exact HB.out|apply below_alloc|apply pw_below_drewN|apply below_drew1)|exact HB.out)⟩⟩
 case round=>
  clear H'
  try clear p2
  obtain ⟨x5_1,x6_1,rfl,HA,HK1,HO_5,HB⟩:=hrel
  cases gk with
  | zero=>exact absurd HA.out (by simp [annalsref03_First.l0])
  | succ k1=>
    have H:=HA.out
    clear HA
    simp only [annalsref03_First.l0] at H
    have HC3:=z_ H
    clear H
    go_upto_region 3 with (fail)
    go_cut [17] (fun v17 wc=>∃(kq:Nat) (x17_2:Bool),v17 = .bool x17_2/\Aside0 (annalsref03_First.j1 kq l0 a1 x5_1 x6_1 x17_2=some r)/\Aside0 (kq<=k1)/\Aside0 (Kd.R (Kd.int .u8) 5 wc w.heap.size (fun _=>True) u5 x5_1)/\Aside0 (Below w.heap.size w wc))
    case first=>
     have H:=HC3.out
     clear HC3
     by_cases c4:x6_1<a1
     ·rw [if_pos c4] at H
      have c4b0:decide (x6_1<a1)=true:=decide_eq_true c4
      clear c4
      (first|rw [c4b0]|(simp only [i64_w,i32_w];rw [c4b0])|skip)
      have H':=z_ H
      clear H
      go_wp2
      go_meet
      case rel=>exact ⟨_,(decide ((wrap64 (Int.tdiv x6_1 8))<(l0.length:Int))),(by first|rfl|(simp;done)|(simp [*];done)),H',⟨by have:=HK1.out;first|omega|exact Nat.le_refl _⟩,⟨by (with_reducible repeat (first|apply Kd.R_alloc|apply Kd.R_drewN|apply Kd.R_drew));exact HO_5.out⟩,⟨by repeat (first|(with_reducible first|exact HB.out|apply below_alloc|apply pw_below_drewN|apply below_drew1)|exact HB.out)⟩⟩
     ·rw [if_neg c4] at H
      have c4b0:decide (x6_1<a1)=false:=decide_eq_false c4
      clear c4
      (first|rw [c4b0]|(simp only [i64_w,i32_w];rw [c4b0])|skip)
      have H':=z_ H
      clear H
      go_wp2
      go_meet
      case rel=>exact ⟨_,(false),(by first|rfl|(simp;done)|(simp [*];done)),H',⟨by have:=HK1.out;first|omega|exact Nat.le_refl _⟩,⟨by (with_reducible repeat (first|apply Kd.R_alloc|apply Kd.R_drewN|apply Kd.R_drew));exact HO_5.out⟩,⟨by repeat (first|(with_reducible first|exact HB.out|apply below_alloc|apply pw_below_drewN|apply below_drew1)|exact HB.out)⟩⟩
    case rest=>
     clear HC3
     try clear p2
     try clear c4
     try clear c4b0
     try clear p2
     obtain ⟨kq,x17_2,rfl,HA,HJ2,HO_5,HB⟩:=hcut
     cases kq with
     | zero=>exact absurd HA.out (by simp [annalsref03_First.j1])
     | succ kj2=>
       have H:=HA.out
       clear HA
       simp only [annalsref03_First.j1] at H
       by_cases c5:x17_2=true
       ·subst c5
        have H1:(if 0<=(wrap64 (Int.tdiv x6_1 8)) then (if (wrap64 (Int.tdiv x6_1 8))<(l0.length:Int) then (if (wrap64 (a1-x6_1))<8 then (if 0<=(wrap64 (8-(wrap64 (a1-x6_1)))) then (if x5_1.length<140737488355328 then (annalsref03_First.l0 kj2 l0 a1 (x5_1++[shl .u8 (shr .u8 (rd l0 (wrap64 (Int.tdiv x6_1 8))) (wrap64 (8-(wrap64 (a1-x6_1))))) (wrap64 (8-(wrap64 (a1-x6_1))))]) (wrap64 (x6_1+8))) else (none)) else (none)) else (if x5_1.length<140737488355328 then (annalsref03_First.l0 kj2 l0 a1 (x5_1++[rd l0 (wrap64 (Int.tdiv x6_1 8))]) (wrap64 (x6_1+8))) else (none))) else (none)) else (none))=some r:=by rw [if_pos rfl] at H;exact H
        clear H
        have H:=H1
        clear H1
        obtain ⟨ji6,hji6⟩ : ∃j_:Int,(wrap64 (Int.tdiv x6_1 8))=j_:=⟨_,rfl⟩
        replace H:(if 0<=(ji6) then (if (ji6)<(l0.length:Int) then (if (wrap64 (a1-x6_1))<8 then (if 0<=(wrap64 (8-(wrap64 (a1-x6_1)))) then (if x5_1.length<140737488355328 then (annalsref03_First.l0 kj2 l0 a1 (x5_1++[shl .u8 (shr .u8 (rd l0 (ji6)) (wrap64 (8-(wrap64 (a1-x6_1))))) (wrap64 (8-(wrap64 (a1-x6_1))))]) (wrap64 (x6_1+8))) else (none)) else (none)) else (if x5_1.length<140737488355328 then (annalsref03_First.l0 kj2 l0 a1 (x5_1++[rd l0 (ji6)]) (wrap64 (x6_1+8))) else (none))) else (none)) else (none))=some r:=by first|(rw [hji6] at H;exact H)|(simp only [hji6] at H ⊢;exact H)
        have hji6w:(IntKind.i64.wrap (Int.tdiv x6_1 8))=ji6:=(i64_w _).trans hji6
        by_cases c7:0<=(ji6)
        ·rw [if_pos c7] at H
         have c7b0:decide (0<=(ji6))=true:=decide_eq_true c7
         clear c7
         by_cases c8:(ji6)<(l0.length:Int)
         ·rw [if_pos c8] at H
          have c8b0:decide ((ji6)<(l0.length:Int))=true:=decide_eq_true c8
          clear c8
          by_cases c9:(wrap64 (a1-x6_1))<8
          ·rw [if_pos c9] at H
           have c9b0:decide ((wrap64 (a1-x6_1))<8)=true:=decide_eq_true c9
           clear c9
           obtain ⟨ji10,hji10⟩ : ∃j_:Int,(wrap64 (8-(wrap64 (a1-x6_1))))=j_:=⟨_,rfl⟩
           replace H:(if 0<=(ji10) then (if x5_1.length<140737488355328 then (annalsref03_First.l0 kj2 l0 a1 (x5_1++[shl .u8 (shr .u8 (rd l0 (ji6)) (ji10)) (ji10)]) (wrap64 (x6_1+8))) else (none)) else (none))=some r:=by first|(rw [hji10] at H;exact H)|(simp only [hji10] at H ⊢;exact H)
           have hji10w:(IntKind.i64.wrap (8-(wrap64 (a1-x6_1))))=ji10:=(i64_w _).trans hji10
           by_cases c11:0<=(ji10)
           ·rw [if_pos c11] at H
            have c11b0:=eq_true c11
            have c11b1:decide (0<=(ji10))=true:=decide_eq_true c11
            clear c11
            obtain ⟨ji12,hji12⟩ : ∃j_:Int,(shr .u8 (rd l0 (ji6)) (ji10))=j_:=⟨_,rfl⟩
            replace H:(if x5_1.length<140737488355328 then (annalsref03_First.l0 kj2 l0 a1 (x5_1++[shl .u8 (ji12) (ji10)]) (wrap64 (x6_1+8))) else (none))=some r:=by first|(rw [hji12] at H;exact H)|(simp only [hji12] at H ⊢;exact H)
            have hji12_:((rd l0 (ji6))/2^min (ji10).toNat 8)=ji12:=hji12
            have hji12z:(ji10)<=8->((rd l0 (ji6))/2^(ji10).toNat)=ji12:=shr_small hji12
            have c13b0:=eq_true (of_decide_eq_true (by first|(with_reducible assumption)|assumption):0<=(ji10))
            obtain ⟨ji14,hji14⟩ : ∃j_:Int,(shl .u8 (ji12) (ji10))=j_:=⟨_,rfl⟩
            replace H:(if x5_1.length<140737488355328 then (annalsref03_First.l0 kj2 l0 a1 (x5_1++[ji14]) (wrap64 (x6_1+8))) else (none))=some r:=by first|(rw [hji14] at H;exact H)|(simp only [hji14] at H ⊢;exact H)
            have hji14_:(IntKind.u8.wrap ((ji12)*2^min (ji10).toNat 8))=ji14:=hji14
            have hji14z:(ji10)<=8->(IntKind.u8.wrap ((ji12)*2^(ji10).toNat))=ji14:=shl_small hji14
            by_cases c15:x5_1.length<140737488355328
            ·rw [if_pos c15] at H
             have LMc15:=z_ c15
             clear c15
             obtain ⟨y198,hy198⟩ : ∃y_:List Int,y_=(x5_1++[ji14]):=⟨_,rfl⟩
             replace H:(annalsref03_First.l0 kj2 l0 a1 y198 (wrap64 (x6_1+8)))=some r:=by first|(rw [hy198];with_reducible exact H)|(have H2_:=(Option.bind_some _ _).symm.trans H;rw [hy198];with_reducible exact H2_)|(have H2_:=(Option.bind_some _ _).symm.trans H;with_reducible exact H2_)|with_reducible exact H|(rw [hy198];exact H)|exact H
             have Ny198:=z_ hy198
             clear hy198
             have H':=z_ H
             clear H
             have p197:0<=((ji6):Int):=of_decide_eq_true (by first|(with_reducible assumption)|assumption)
             have q197:(ji6)<(l0.length:Int):=of_decide_eq_true (by first|(with_reducible assumption)|assumption)
             obtain ⟨ad197,e197,hx197_0⟩:=Kd.at_int HR0.out (ji6) p197 q197
             cases e197
             replace hx197_0:=(HB.out.cell (World.block_lt_of_cell? w _ hx197_0)).trans hx197_0
             replace p197:=eq_true p197
             replace q197:=eq_true q197
             go_wp2_with (first|((with_reducible refine gate_builtin (b:=.append) (xs:=#[.tmp 40,.tmp 42]) rfl ?_);(try (refine gate_guard (by rfl) ?_;dsimp only));at_builtin;refine Kd.R_append (Kd.int .u8) (w0:=w) w.heap.size rfl (.tmp 40) (.tmp 42) 23 5 (.int .u8 0) 1 rfl Tryz.underlying23 info5 rfl (by decide) (by omega) u5 x5_1 ji14 [.int .u8 ji14] (fun _=>True) (fun _=>False) rfl rfl ?aP (fun _ hk=>hk.elim) ?aF ?aO ?aB ?aS ?aL ?_;(case aP=>exact rfl);(case aB=>exact (by repeat (first|(with_reducible first|exact HB.out|apply below_alloc|apply pw_below_drewN|apply below_drew1)|exact HB.out)));(case aF=>exact (fun _ _=>trivial));(case aO=>exact (by (with_reducible repeat (first|apply Kd.R_alloc|apply Kd.R_drewN|apply Kd.R_drew));exact HO_5.out));(case aS=>exact (below_size (by repeat (first|(with_reducible first|exact HB.out|apply below_alloc|apply pw_below_drewN|apply below_drew1)|exact HB.out))));(case aL=>have:=LMc15.out;omega);intro v199 w16 ho hb hg hat;rw [<-Ny198.out] at ho;have n0_:=z_ (hb);have n1_:=z_ (ho);clear HB;clear HO_5;have HB:=n0_;have HO200:=n1_;clear n0_ n1_;clear ho hb hg hat))
             go_roundg kj2
             case measure=>have:=HK1.out;have:=HJ2.out;omega
             case rel=>exact ⟨(y198),(wrap64 (x6_1+8)),(by first|rfl|(simp;done)|(simp [*];done)),H',⟨by have:=HK1.out;have:=HJ2.out;omega⟩,⟨by (with_reducible repeat (first|apply Kd.R_alloc|apply Kd.R_drewN|apply Kd.R_drew));exact HO200.out⟩,⟨by repeat (first|(with_reducible first|exact HB.out|apply below_alloc|apply pw_below_drewN|apply below_drew1)|exact HB.out)⟩⟩
            ·rw [if_neg c15] at H
             exact absurd H (by simp)
           ·rw [if_neg c11] at H
            exact absurd H (by simp)
          ·rw [if_neg c9] at H
           have c9b0:decide ((wrap64 (a1-x6_1))<8)=false:=decide_eq_false c9
           clear c9
           by_cases c17:x5_1.length<140737488355328
           ·rw [if_pos c17] at H
            have LMc17:=z_ c17
            clear c17
            obtain ⟨y201,hy201⟩ : ∃y_:List Int,y_=(x5_1++[rd l0 (ji6)]):=⟨_,rfl⟩
            replace H:(annalsref03_First.l0 kj2 l0 a1 y201 (wrap64 (x6_1+8)))=some r:=by first|(rw [hy201];with_reducible exact H)|(have H2_:=(Option.bind_some _ _).symm.trans H;rw [hy201];with_reducible exact H2_)|(have H2_:=(Option.bind_some _ _).symm.trans H;with_reducible exact H2_)|with_reducible exact H|(rw [hy201];exact H)|exact H
            have Ny201:=z_ hy201
            clear hy201
            have H':=z_ H
            clear H
            have p197:0<=((ji6):Int):=of_decide_eq_true (by first|(with_reducible assumption)|assumption)
            have q197:(ji6)<(l0.length:Int):=of_decide_eq_true (by first|(with_reducible assumption)|assumption)
            obtain ⟨ad197,e197,hx197_0⟩:=Kd.at_int HR0.out (ji6) p197 q197
            cases e197
            replace hx197_0:=(HB.out.cell (World.block_lt_of_cell? w _ hx197_0)).trans hx197_0
            replace p197:=eq_true p197
            replace q197:=eq_true q197
            go_wp2_with (first|((with_reducible refine gate_builtin (b:=.append) (xs:=#[.tmp 40,.tmp 42]) rfl ?_);(try (refine gate_guard (by rfl) ?_;dsimp only));at_builtin;refine Kd.R_append (Kd.int .u8) (w0:=w) w.heap.size rfl (.tmp 40) (.tmp 42) 23 5 (.int .u8 0) 1 rfl Tryz.underlying23 info5 rfl (by decide) (by omega) u5 x5_1 (rd l0 (ji6)) [.int .u8 (rd l0 (ji6))] (fun _=>True) (fun _=>False) rfl rfl ?aP (fun _ hk=>hk.elim) ?aF ?aO ?aB ?aS ?aL ?_;(case aP=>exact rfl);(case aB=>exact (by repeat (first|(with_reducible first|exact HB.out|apply below_alloc|apply pw_below_drewN|apply below_drew1)|exact HB.out)));(case aF=>exact (fun _ _=>trivial));(case aO=>exact (by (with_reducible repeat (first|apply Kd.R_alloc|apply Kd.R_drewN|apply Kd.R_drew));exact HO_5.out));(case aS=>exact (below_size (by repeat (first|(with_reducible first|exact HB.out|apply below_alloc|apply pw_below_drewN|apply below_drew1)|exact HB.out))));(case aL=>have:=LMc17.out;omega);intro v202 w18 ho hb hg hat;rw [<-Ny201.out] at ho;have n0_:=z_ (hb);have n1_:=z_ (ho);clear HB;clear HO_5;have HB:=n0_;have HO203:=n1_;clear n0_ n1_;clear ho hb hg hat))
            go_roundg kj2
            case measure=>have:=HK1.out;have:=HJ2.out;omega
            case rel=>exact ⟨(y201),(wrap64 (x6_1+8)),(by first|rfl|(simp;done)|(simp [*];done)),H',⟨by have:=HK1.out;have:=HJ2.out;omega⟩,⟨by (with_reducible repeat (first|apply Kd.R_alloc|apply Kd.R_drewN|apply Kd.R_drew));exact HO203.out⟩,⟨by repeat (first|(with_reducible first|exact HB.out|apply below_alloc|apply pw_below_drewN|apply below_drew1)|exact HB.out)⟩⟩
           ·rw [if_neg c17] at H
            exact absurd H (by simp)
         ·rw [if_neg c8] at H
          exact absurd H (by simp)
        ·rw [if_neg c7] at H
         exact absurd H (by simp)
       ·replace c5:=Bool.eq_false_iff.mpr c5
        subst c5
        have H1:(some x5_1)=some r:=by rw [if_neg (show ¬(false=true) by decide)] at H;exact H
        clear H
        have H:=H1
        clear H1
        obtain rfl:=Option.some.inj H
        go_wp2
        go_ret
        exact ⟨_,by first|rfl|(simp [errW_none,errW_some]<;>rfl)|(simp [*,errW_none,errW_some]<;>rfl),by (with_reducible repeat (first|apply Kd.R_alloc|apply Kd.R_drewN|apply Kd.R_drew));exact HO_5.out,by repeat (first|(with_reducible first|exact HB.out|apply below_alloc|apply pw_below_drewN|apply below_drew1)|exact HB.out)⟩
end Go.Proofs.YtdeneoknjeegbaaGreatDoor.P
end
