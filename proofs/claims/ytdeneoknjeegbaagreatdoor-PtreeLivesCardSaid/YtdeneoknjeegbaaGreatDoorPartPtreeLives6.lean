/- Lemmas of this claim, part 6. -/
import Derived.Test.YtdeneoknjeegbaaGreatDoorPartPtreeLives5
import Derived.Test.YtdeneoknjeegbaaGreatDoorPartPtreeLives3
import Derived.Test.YtdeneoknjeegbaaGreatDoorPartPtreeLives4
import Derived.Test.YtdeneoknjeegbaaGreatDoorPartPtreeLives2
set_option linter.unusedVariables false
set_option linter.unusedSimpArgs false
section
namespace Go.Proofs.YtdeneoknjeegbaaGreatDoor.P
open Go.RowKit YtdeneoknjeegbaaGreatDoorW.PrintWords YtdeneoknjeegbaaGreatDoorW.PrintLast YtdeneoknjeegbaaGreatDoorW.PrintMore
theorem wrap64_id (x:Int) (h : -9223372036854775808<=x/\x<=9223372036854775807):wrap64 x=x:=by unfold wrap64;omega
def num8 (n:Int):List Int:=[n/72057594037927936%256,n/281474976710656%256,n/1099511627776%256,n/4294967296%256,n/16777216%256,n/65536%256,n/256%256,n%256]
theorem num8_length (n:Int):(num8 n).length=8:=rfl
theorem num8_ok (n:Int):BytesOk (num8 n):=by
 intro x hx
 simp only [num8,List.mem_cons,List.not_mem_nil,or_false] at hx
 rcases hx with h|h|h|h|h|h|h|h<;>omega
theorem div256 (n:Int) (a b:Int) (ha:0<=a) (h:a*256=b):n/a/256=n/b:=by
 rw [Int.ediv_ediv_of_nonneg ha,h]
theorem numBytes_eq (n:Int):numBytes n=num8 n:=by
 have e (i:Nat) (x:Int) (ys:List Int):numRun (i+1) x ys=numRun i (x/256) (ys.set i (x%256)):=rfl
 unfold numBytes
 rw [e 7,e 6,e 5,e 4,e 3,e 2,e 1,e 0]
 rw [div256 n 256 65536 (by decide) (by decide),div256 n 65536 16777216 (by decide) (by decide),div256 n 16777216 4294967296 (by decide) (by decide),div256 n 4294967296 1099511627776 (by decide) (by decide),div256 n 1099511627776 281474976710656 (by decide) (by decide),div256 n 281474976710656 72057594037927936 (by decide) (by decide)]
 rfl
theorem shr_u64 (n:Int) (i:Int) (d:Int) (h0:0<=i) (h1:i<=56) (hd:(2:Int)^i.toNat=d):shr .u64 (IntKind.u64.wrap n) i=(n%18446744073709551616)/d:=by
 unfold shr
 rw [IntKind.wrap_u64,Nat.min_eq_left (by simp only [IntKind.bits];omega),hd]
theorem rnum_step (k:Nat) (n:Int) (acc:List Int) (i d:Int) (h0:0<=i) (h1:i<=56) (hd:(2:Int)^i.toNat=d) (ha:acc.length<100):
 annalsref02_Number.l0 (k+1) n acc i=annalsref02_Number.l0 k n (acc++[(n%18446744073709551616)/d%256]) (i-8):=by
 simp only [annalsref02_Number.l0]
 rw [if_pos (by omega),if_pos (by omega),if_pos (by omega),shr_u64 n i d h0 h1 hd,wrap64_id _ (by omega)]
theorem rnum_f (n:Int) (k:Nat) (hk:9<=k):annalsref02_Number.f k n=some (num8 n):=by
 obtain ⟨k,rfl⟩ : ∃m,k=m+9:=⟨k-9,by omega⟩
 unfold annalsref02_Number.f
 rw [rnum_step (k+8) n _ 56 72057594037927936 (by omega) (by omega) (by decide) (by simp),rnum_step (k+7) n _ (56-8) 281474976710656 (by omega) (by omega) (by decide) (by simp),rnum_step (k+6) n _ (56-8-8) 1099511627776 (by omega) (by omega) (by decide) (by simp),rnum_step (k+5) n _ (56-8-8-8) 4294967296 (by omega) (by omega) (by decide) (by simp),rnum_step (k+4) n _ (56-8-8-8-8) 16777216 (by omega) (by omega) (by decide) (by simp),rnum_step (k+3) n _ (56-8-8-8-8-8) 65536 (by omega) (by omega) (by decide) (by simp),rnum_step (k+2) n _ (56-8-8-8-8-8-8) 256 (by omega) (by omega) (by decide) (by simp),rnum_step (k+1) n _ (56-8-8-8-8-8-8-8) 1 (by omega) (by omega) (by decide) (by simp)]
 have hend:annalsref02_Number.l0 (k+1) n (([]:List Int)++[n%18446744073709551616/72057594037927936%256]++[n%18446744073709551616/281474976710656%256]++[n%18446744073709551616/1099511627776%256]++[n%18446744073709551616/4294967296%256]++[n%18446744073709551616/16777216%256]++[n%18446744073709551616/65536%256]++[n%18446744073709551616/256%256]++[n%18446744073709551616/1%256]) (56-8-8-8-8-8-8-8-8)=some (([]:List Int)++[n%18446744073709551616/72057594037927936%256]++[n%18446744073709551616/281474976710656%256]++[n%18446744073709551616/1099511627776%256]++[n%18446744073709551616/4294967296%256]++[n%18446744073709551616/16777216%256]++[n%18446744073709551616/65536%256]++[n%18446744073709551616/256%256]++[n%18446744073709551616/1%256]):=by
  simp only [annalsref02_Number.l0]
  rw [if_neg (by omega)]
 rw [hend]
 simp only [List.nil_append,List.cons_append,num8]
 have m1:n%18446744073709551616/72057594037927936%256=n/72057594037927936%256:=by omega
 have m2:n%18446744073709551616/281474976710656%256=n/281474976710656%256:=by omega
 have m3:n%18446744073709551616/1099511627776%256=n/1099511627776%256:=by omega
 have m4:n%18446744073709551616/4294967296%256=n/4294967296%256:=by omega
 have m5:n%18446744073709551616/16777216%256=n/16777216%256:=by omega
 have m6:n%18446744073709551616/65536%256=n/65536%256:=by omega
 have m7:n%18446744073709551616/256%256=n/256%256:=by omega
 have m8:n%18446744073709551616/1%256=n%256:=by omega
 rw [m1,m2,m3,m4,m5,m6,m7,m8]
def partB (p:List Int):List Int:=[(p.length:Int)/256%256,(p.length:Int)%256]++p
def textB (tag:Int) (parts:List (List Int)):List Int:=[tag]++parts.flatMap partB
def hashB (size tag:Int) (parts:List (List Int)):List Int:=if parts.any isLong=true then [] else (shaSum (textB tag parts)).take (mn (mx size 0) 32).toNat
theorem rd_L1_at (xs:List (List Int)) (i:Nat) (h:i<xs.length):rd_L1 xs (i:Int)=xs[i]:=by
 unfold rd_L1
 rw [Int.toNat_natCast,List.getD_eq_getElem?_getD,List.getElem?_eq_getElem h]
 rfl
theorem partB_length (p:List Int):(partB p).length=p.length+2:=by
 unfold partB
 simp
theorem flat_len (parts:List (List Int)) (h : ∀p∈parts,p.length<=65535):(parts.flatMap partB).length<=65537*parts.length:=by
 induction parts with
 | nil=>simp
 | cons p ps ih=>
   have:=ih (fun q hq=>h q (List.mem_cons_of_mem _ hq))
   have h1:=h p List.mem_cons_self
   rw [List.flatMap_cons,List.length_append,List.length_cons,partB_length]
   omega
theorem not_long {parts:List (List Int)} (h:parts.any isLong=false) : ∀p∈parts,p.length<=65535:=by
 intro p hp
 have:=List.any_eq_false.1 h p hp
 unfold isLong at this
 simp at this
 omega
theorem text_l0 (parts:List (List Int)) (hl : ∀p∈parts,p.length<=65535) (hn:parts.length<=100000) : ∀(d i k:Nat) (acc:List Int),i+d=parts.length->d<k->acc.length<=65537*i+1->
 texts_Text.l0 k acc parts (parts.length:Int) (i:Int)=some (acc++(parts.drop i).flatMap partB,0):=by
 intro d
 induction d with
 | zero=>
   intro i k acc hi hk ha
   obtain ⟨k,rfl⟩ : ∃m,k=m+1:=⟨k-1,by omega⟩
   simp only [texts_Text.l0]
   rw [if_neg (by omega),List.drop_of_length_le (by omega)]
   simp
 | succ d ih=>
   intro i k acc hi hk ha
   obtain ⟨k,rfl⟩ : ∃m,k=m+1:=⟨k-1,by omega⟩
   have hlt:i<parts.length:=by omega
   have h1:=hl parts[i] (List.getElem_mem hlt)
   simp only [texts_Text.l0]
   rw [if_pos (by omega),if_pos (by omega),if_pos (by omega),rd_L1_at _ _ hlt]
   simp only [Option.bind_some]
   rw [if_pos (by simp;omega),if_pos (by simp;omega),wrap64_id _ (by omega)]
   have:=ih (i+1) k (acc++[(parts[i].length:Int)/256%256,(parts[i].length:Int)%256]++parts[i]) (by omega) (by omega) (by simp;omega)
   rw [show ((i:Int)+1)=((i+1:Nat):Int) by omega,this,List.drop_eq_getElem_cons hlt,List.flatMap_cons]
   unfold partB
   simp
theorem text_f (tag:Int) (parts:List (List Int)) (ht:0<=tag/\tag<=255) (hn:parts.length<=100000) (k:Nat) (hk:parts.length<k):
 texts_Text.f k tag parts=some (if parts.any isLong=true then ([],4) else (textB tag parts,0)):=by
 unfold texts_Text.f
 rw [if_pos (by omega)]
 unfold slices_ContainsFunc_byte_byte.f
 simp only [Option.bind_some]
 cases h:parts.any isLong
 ·rw [if_neg (by simp),if_neg (by simp)]
  have:=text_l0 parts (not_long h) hn parts.length 0 k [tag%256] (by omega) hk (by simp)
  rw [show ((0:Nat):Int)=0 from rfl] at this
  rw [this,show tag%256=tag by omega]
  rfl
 ·rw [if_pos rfl,if_pos rfl]
theorem textB_length (tag:Int) (parts:List (List Int)) (h:parts.any isLong=false):(textB tag parts).length<=65537*parts.length+1:=by
 have:=flat_len parts (not_long h)
 unfold textB
 simp only [List.length_append,List.length_cons,List.length_nil]
 omega
theorem hash_f (size tag:Int) (parts:List (List Int)) (ht:0<=tag/\tag<=255) (hn:parts.length<=100000) (k:Nat) (hk:parts.length<k):
 texts_Hash.f k size tag parts=some (hashB size tag parts):=by
 unfold texts_Hash.f hashB
 rw [text_f tag parts ht hn k hk]
 simp only [Option.bind_some]
 cases h:parts.any isLong
 ·have hl:=textB_length tag parts h
  simp only [Bool.false_eq_true,if_false,if_true]
  unfold sha_Cut.f
  rw [if_pos (by show (textB tag parts).length<=_;omega)]
  rfl
 ·simp only [if_true]
  rw [if_neg (by decide)]
theorem rtext_l0 (parts:List (List Int)) (hn:parts.length<=100000) : ∀(d i k:Nat) (acc:List Int),i+d=parts.length->d<k->acc.length<=65537*i+1->
 annalsref02_Text.l0 k acc parts (parts.length:Int) (i:Int)=some (if (parts.drop i).any isLong=true then ([],4) else (acc++(parts.drop i).flatMap partB,0)):=by
 intro d
 induction d with
 | zero=>
   intro i k acc hi hk ha
   obtain ⟨k,rfl⟩ : ∃m,k=m+1:=⟨k-1,by omega⟩
   simp only [annalsref02_Text.l0]
   rw [if_neg (by omega),List.drop_of_length_le (by omega)]
   simp
 | succ d ih=>
   intro i k acc hi hk ha
   obtain ⟨k,rfl⟩ : ∃m,k=m+1:=⟨k-1,by omega⟩
   have hlt:i<parts.length:=by omega
   simp only [annalsref02_Text.l0]
   rw [if_pos (by omega),if_pos (by omega),if_pos (by omega),rd_L1_at _ _ hlt,List.drop_eq_getElem_cons hlt,List.any_cons]
   by_cases hL:(parts[i].length:Int)>65535
   ·have h1:isLong parts[i]=true:=decide_eq_true hL
    rw [if_pos hL,h1,if_pos (by simp)]
   ·have h1:isLong parts[i]=false:=decide_eq_false hL
    rw [if_neg hL,h1,Bool.false_or]
    simp only [Option.bind_some]
    rw [if_pos (by simp;omega),if_pos (by simp;omega),wrap64_id _ (by omega)]
    have:=ih (i+1) k (acc++[(parts[i].length:Int)/256%256,(parts[i].length:Int)%256]++parts[i]) (by omega) (by omega) (by simp;omega)
    rw [show ((i:Int)+1)=((i+1:Nat):Int) by omega,this,List.flatMap_cons]
    unfold partB
    simp
theorem rtext_f (tag:Int) (parts:List (List Int)) (ht:0<=tag/\tag<=255) (hn:parts.length<=100000) (k:Nat) (hk:parts.length+1<k):
 annalsref02_Text.f k tag parts=some (if parts.any isLong=true then ([],4) else (textB tag parts,0)):=by
 obtain ⟨k,rfl⟩ : ∃m,k=m+1:=⟨k-1,by omega⟩
 unfold annalsref02_Text.f
 rw [if_neg (by omega),decide_eq_false (by omega)]
 simp only [annalsref02_Text.j0]
 rw [if_neg (by simp)]
 have:=rtext_l0 parts hn parts.length 0 k [tag%256] (by omega) (by omega) (by simp)
 rw [show ((0:Nat):Int)=0 from rfl] at this
 rw [this,show tag%256=tag by omega,List.drop_zero]
 rfl
def PartsOk (parts:List (List Int)):Prop:=∀p∈parts,BytesOk p
theorem textB_ok (tag:Int) (parts:List (List Int)) (ht:0<=tag/\tag<=255) (hp:PartsOk parts):BytesOk (textB tag parts):=by
 intro x hx
 unfold textB at hx
 rcases List.mem_append.1 hx with h|h
 ·obtain rfl:=List.mem_singleton.1 h
  exact ht
 ·obtain ⟨p,hpm,h⟩:=List.mem_flatMap.1 h
  unfold partB at h
  rcases List.mem_append.1 h with h|h
  ·simp only [List.mem_cons,List.not_mem_nil,or_false] at h
   rcases h with h|h<;>omega
  ·exact hp p hpm x h
theorem cut_eq (a:Int):mx 0 (mn a 32)=mn (mx a 0) 32:=by
 unfold mx mn
 split<;>split<;>(try split)<;>(try split)<;>omega
theorem refSum_length (bs:List Int):(refSum bs).length=32:=by
 unfold refSum
 rw [rout_length]
theorem rhash_f (size tag:Int) (parts:List (List Int)) (ht:0<=tag/\tag<=255) (hp:PartsOk parts) (hn:parts.length<=100000) (k:Nat) (hk:parts.length+1<k):
 annalsref02_Hash.f k size tag parts=some (hashB size tag parts):=by
 unfold annalsref02_Hash.f hashB
 rw [rtext_f tag parts ht hn k hk]
 simp only [Option.bind_some]
 cases h:parts.any isLong
 ·have hl:=textB_length tag parts h
  simp only [Bool.false_eq_true,if_false,if_true]
  unfold annalsref01_Cut.f annalsref01_Sum.f
  rw [if_pos (by show (textB tag parts).length<=_;omega)]
  simp only [Option.bind_some]
  have h0:0<=mx 0 (mn size 32)/\mx 0 (mn size 32)<=32:=by
   unfold mx mn
   split<;>(try split)<;>(try split)<;>omega
  rw [if_pos h0.1,if_pos (by rw [refSum_length];exact h0.2),cut_eq,<-sum_eq _ (textB_ok tag parts ht hp)]
  rfl
 ·simp only [if_true]
  rw [if_neg (by decide)]
theorem cut_byte : ∀s:Fin 8,∀x:Fin 256,Go.bits .and .u8 (x.val:Int) (255*2^s.val%256)=(x.val:Int)/2^s.val*2^s.val%256:=by decide +kernel
theorem shl_shr_u8 (x s:Int) (h0:0<=s) (h1:s<8) (hx:0<=x/\x<=255):shl .u8 (shr .u8 x s) s=Go.bits .and .u8 x (255*2^s.toNat%256):=by
 have:=cut_byte ⟨s.toNat,by omega⟩ ⟨x.toNat,by omega⟩
 simp only [Int.toNat_of_nonneg hx.1] at this
 rw [this]
 unfold shl shr
 rw [Nat.min_eq_left (by simp only [IntKind.bits];omega)]
 rw [IntKind.wrap_u8]
theorem take_set_last (l:List Int) (m:Nat) (h:m<l.length) (y:Int):(l.take (m+1)).set m y=l.take m++[y]:=by
 rw [List.take_succ_eq_append_getElem h,List.set_append_right _ _ (by rw [List.length_take];omega),List.length_take,Nat.min_eq_left (by omega),Nat.sub_self]
 rfl
theorem rfirst_exit (k:Nat) (l:List Int) (a:Int) (acc:List Int) (i:Int) (h:a<=i\/8*(l.length:Int)<=i) (h0:0<=i) (h1:i<=9223372036854775807) (hk:2<=k):annalsref03_First.l0 k l a acc i=some acc:=by
 obtain ⟨k,rfl⟩ : ∃m,k=m+2:=⟨k-2,by omega⟩
 simp only [annalsref03_First.l0]
 by_cases hi:i<a
 ·rw [if_pos hi]
  have e:wrap64 (Int.tdiv i 8)=i/8:=by rw [Int.tdiv_eq_ediv_of_nonneg h0];exact wrap64_id _ (by omega)
  simp only [annalsref03_First.j1]
  rw [e,decide_eq_false (by omega),if_neg (by simp)]
 ·rw [if_neg hi]
  simp only [annalsref03_First.j1]
  rw [if_neg (by simp)]
theorem rfirst_l0 (l:List Int) (hb:BytesOk l) (a:Int) (hl:l.length<140737488355328) (ha:a<=9223372036854775807) : ∀(d m k:Nat),m+d=l.length->2*d+2<=k->(m=0\/8*(m:Int)<=a)->
 annalsref03_First.l0 k l a (l.take m) (8*(m:Int))=some (firstB l a):=by
 intro d
 induction d with
 | zero=>
   intro m k hm hk hma
   rw [rfirst_exit k l a _ _ (.inr (by omega)) (by omega) (by omega) (by omega),List.take_of_length_le (by omega)]
   unfold firstB
   by_cases h:8*(l.length:Int)<=a
   ·rw [if_pos h]
   ·have h0:l.length=0:=by omega
    obtain rfl:=List.eq_nil_of_length_eq_zero h0
    rw [if_neg h]
    split
    ·rfl
    ·rename_i h2
     exfalso
     simp at h
     omega
 | succ d ih=>
   intro m k hm hk hma
   have hlt:m<l.length:=by omega
   by_cases hi:8*(m:Int)<a
   ·obtain ⟨k,rfl⟩ : ∃j,k=j+2:=⟨k-2,by omega⟩
    have e:wrap64 (Int.tdiv (8*(m:Int)) 8)=(m:Int):=by rw [Int.tdiv_eq_ediv_of_nonneg (by omega),wrap64_id _ (by omega)];omega
    have e2:wrap64 (a-8*(m:Int))=a-8*(m:Int):=wrap64_id _ (by omega)
    have e4:wrap64 (8*(m:Int)+8)=8*((m+1:Nat):Int):=by rw [wrap64_id _ (by omega)];omega
    have hrd:rd l (m:Int)=l[m]:=by unfold rd;rw [Int.toNat_natCast,List.getD_eq_getElem?_getD,List.getElem?_eq_getElem hlt];rfl
    simp only [annalsref03_First.l0,annalsref03_First.j1]
    rw [if_pos hi,e,decide_eq_true (by omega),if_pos rfl,if_pos (by omega),if_pos (by omega),e2,e4,hrd,List.length_take,Nat.min_eq_left (by omega)]
    by_cases h8:a-8*(m:Int)<8
    ·have e3:wrap64 (8-(a-8*(m:Int)))=8-(a-8*(m:Int)):=wrap64_id _ (by omega)
     rw [if_pos h8,e3,if_pos (by omega),if_pos (by omega),shl_shr_u8 _ _ (by omega) (by omega) (hb _ (List.getElem_mem hlt)),rfirst_exit k l a _ _ (.inl (by omega)) (by omega) (by omega) (by omega)]
     unfold firstB
     rw [if_neg (by omega),if_neg (by omega)]
     unfold firstBits
     have hbb:bitBytes a.toNat=m+1:=by unfold bitBytes;omega
     rw [if_neg (by omega),hbb,show m+1-1=m from rfl,take_set_last l m hlt]
     unfold cutByte
     have e5:((a.toNat%8:Nat):Int)=a-8*(m:Int):=by omega
     have e6:(l.take (m+1)).getD m 0=l[m]:=by
      rw [List.getD_eq_getElem?_getD,List.getElem?_take,if_pos (by omega),List.getElem?_eq_getElem hlt]
      rfl
     rw [e5,e6]
    ·rw [if_neg h8,if_pos (by omega),<-List.take_succ_eq_append_getElem hlt]
     exact ih (m+1) k (by omega) (by omega) (.inr (by omega))
   ·rw [rfirst_exit k l a _ _ (.inl (by omega)) (by omega) (by omega) (by omega)]
    unfold firstB
    rw [if_neg (by omega)]
    by_cases h1:a<1
    ·have hm0:m=0:=by omega
     rw [if_pos h1,hm0]
     rfl
    ·rw [if_neg h1]
     unfold firstBits
     have hbb:bitBytes a.toNat=m:=by unfold bitBytes;omega
     rw [if_pos (by omega),hbb]
theorem rfirst_f (l:List Int) (hb:BytesOk l) (a:Int) (hl:l.length<140737488355328) (ha:a<=9223372036854775807) (k:Nat) (hk:2*l.length+2<=k):annalsref03_First.f k l a=some (firstB l a):=by
 unfold annalsref03_First.f
 have:=rfirst_l0 l hb a hl ha l.length 0 k (by omega) hk (.inl rfl)
 exact this
theorem firstB_length (l:List Int) (a:Int):(firstB l a).length<=l.length:=by
 unfold firstB firstBits
 split
 ·omega
 ·split
  ·simp
  ·split
   ·rw [List.length_take];omega
   ·rw [List.length_set,List.length_take];omega
theorem bits_u8_range (op:BinOp) (x y:Int):0<=Go.bits op .u8 x y/\Go.bits op .u8 x y<=255:=by
 unfold Go.bits
 rw [IntKind.wrap_u8]
 omega
theorem firstB_ok (l:List Int) (hb:BytesOk l) (a:Int):BytesOk (firstB l a):=by
 unfold firstB firstBits
 have ht (m:Nat):BytesOk (l.take m):=fun x hx=>hb x (List.mem_of_mem_take hx)
 split
 ·exact hb
 ·split
  ·intro x hx;cases hx
  ·split
   ·exact ht _
   ·intro x hx
    rcases List.mem_or_eq_of_mem_set hx with h|rfl
    ·exact ht _ x h
    ·unfold cutByte
     exact bits_u8_range _ _ _
theorem at_raw {w:World} {p:Nat} {size room:Int} {g n c:Nat} {vf:Value} (h:ABlk w p size room (.slice (some ⟨g,0,none⟩) n c) vf) (hs:size≠0) (hn:n<=9223372036854775807) (k:Nat) (hk:k<n) (hc:w.cell? ⟨g,k*11,none⟩=some (.bool true)):
 Calls Tryz.prog 48 #[.pointer (some ⟨p,0,none⟩),.int .i64 (k:Int)] w fun e w'=>e = .returned (.pointer (some ⟨g,k*11+1,none⟩))/\w=w':=by
 have HBk:=z_ h
 have HS:=z_ hs
 have hk2:decide (n<=k)=false:=decide_eq_false (by omega)
 have hk3:(k:Int)<(n:Int):=by omega
 have hk4:decide ((k:Int)<0)=false:=decide_eq_false (by omega)
 have hk5:0<=(k:Int):=by omega
 clear h hs
 go_enter Tryz.func48,Tryz.ntmps48
 go_wp2_with fail
 refine (none_calls HBk.out HS.out).mono ?_
 rintro e w' ⟨rfl,rfl⟩
 obtain ⟨c0,c1,c2,c3⟩:=HBk.out.cells
 go_wp2_with fail
 go_ret
 exact ⟨rfl,rfl⟩
end Go.Proofs.YtdeneoknjeegbaaGreatDoor.P
end
section
namespace Go.Proofs.YtdeneoknjeegbaaGreatDoor.P
open Go.RowKit YtdeneoknjeegbaaGreatDoorW.PrintWords YtdeneoknjeegbaaGreatDoorW.PrintLast YtdeneoknjeegbaaGreatDoorW.PrintMore
attribute [local go_sem] max2_int min2_int max_two min_two max_three min_three max_four min_four
def arena_ForkHash.f (k:Nat) (a0:Int) (a1:Int) (l2:List Int) (a3:Int) (l4:List Int) (l5:List Int):Option (List Int):=(texts_Number.f a1).bind fun t225=>((bits_First.f l2 a1).bind fun t228=>((texts_Number.f a3).bind fun t231=>((texts_Hash.f k a0 2 (([t225,t228,t231,l4,l5]:List (List Int)))).bind fun t237=>(some t237))))
set_option maxHeartbeats 8000000 in
set_option maxRecDepth 100000 in
theorem arena_ForkHash.calls (k:Nat) (a0:Int) (a1:Int) (A2:Option Addr) (c2:Nat) (l2:List Int) (a3:Int) (P4_:Nat->Prop) (A4:Option Addr) (c4:Nat) (l4:List Int) (P5_:Nat->Prop) (A5:Option Addr) (c5:Nat) (l5:List Int) (r:List Int) (w:World) (hr2:Kd.C (Kd.int .u8) w A2 l2.length l2) (hc2:l2.length<=c2) (hs4:Kd.V (Kd.int .u8) 5 w w.heap.size (fun k_=>P4_ k_) (.slice A4 l4.length c4) l4) (hs5:Kd.V (Kd.int .u8) 5 w w.heap.size (fun k_=>P5_ k_) (.slice A5 l5.length c5) l5) (hGS:GlobS w) (h:arena_ForkHash.f k a0 a1 l2 a3 l4 l5=some r):
 Calls Tryz.prog 63 #[.int .i64 a0,.int .i64 a1,.slice A2 l2.length c2,.int .i64 a3,.slice A4 l4.length c4,.slice A5 l5.length c5] w fun e w'=>∃v0_:Value,e = .returned (v0_)/\Kd.V (Kd.int .u8) 5 w' w.heap.size (fun k_=>((P4_ k_\/P5_ k_)\/w.heap.size<=k_)) v0_ r/\Below w.heap.size w w':=by
 have HGS:=z_ hGS
 clear hGS
 have HR2:=z_ hr2
 have HC2:=z_ hc2
 clear hr2 hc2
 have HO4:=z_ (show Kd.V (Kd.int .u8) 5 w w.heap.size (fun k_=>((P4_ k_\/P5_ k_)\/w.heap.size<=k_)) (.slice A4 l4.length c4) l4 from Kd.V_mono hs4 (fun k_ hk=>.inl (.inl hk)))
 have HO5:=z_ (show Kd.V (Kd.int .u8) 5 w w.heap.size (fun k_=>((P4_ k_\/P5_ k_)\/w.heap.size<=k_)) (.slice A5 l5.length c5) l5 from Kd.V_mono hs5 (fun k_ hk=>.inl (.inr hk)))
 have HB:=z_ (Below.refl w.heap.size w)
 have H:((texts_Number.f a1).bind fun t225=>((bits_First.f l2 a1).bind fun t228=>((texts_Number.f a3).bind fun t231=>((texts_Hash.f k a0 2 (([t225,t228,t231,l4,l5]:List (List Int)))).bind fun t237=>(some t237)))))=some r:=h
 clear h
 replace H:=Option.bind_eq_some_iff.mp H
 obtain ⟨t225,A70,H⟩:=H
 replace H:((bits_First.f l2 a1).bind fun t228=>((texts_Number.f a3).bind fun t231=>((texts_Hash.f k a0 2 (([t225,t228,t231,l4,l5]:List (List Int)))).bind fun t237=>(some t237))))=some r:=H
 have A7:=z_ A70
 clear A70
 replace H:=Option.bind_eq_some_iff.mp H
 obtain ⟨t228,A80,H⟩:=H
 replace H:((texts_Number.f a3).bind fun t231=>((texts_Hash.f k a0 2 (([t225,t228,t231,l4,l5]:List (List Int)))).bind fun t237=>(some t237)))=some r:=H
 have A8:=z_ A80
 clear A80
 replace H:=Option.bind_eq_some_iff.mp H
 obtain ⟨t231,A90,H⟩:=H
 replace H:((texts_Hash.f k a0 2 (([t225,t228,t231,l4,l5]:List (List Int)))).bind fun t237=>(some t237))=some r:=H
 have A9:=z_ A90
 clear A90
 obtain ⟨y234,hy234⟩ : ∃y_:List (List Int),y_=(([t225,t228,t231,l4,l5]:List (List Int))):=⟨_,rfl⟩
 replace H:((texts_Hash.f k a0 2 y234).bind fun t237=>(some t237))=some r:=by first|(rw [hy234];with_reducible exact H)|(have H2_:=(Option.bind_some _ _).symm.trans H;rw [hy234];with_reducible exact H2_)|(have H2_:=(Option.bind_some _ _).symm.trans H;with_reducible exact H2_)|with_reducible exact H|(rw [hy234];exact H)|exact H
 have Ny234:=z_ hy234
 clear hy234
 replace H:=Option.bind_eq_some_iff.mp H
 obtain ⟨t237,A100,H⟩:=H
 replace H:(some t237)=some r:=H
 have A10:=z_ A100
 clear A100
 obtain rfl:=Option.some.inj H
 go_enter Tryz.func63,Tryz.ntmps63
 go_wp2_with (first|((with_reducible refine gate_callee (f:=75) rfl ?_);refine goesL_ (some 15) rfl rfl Tryz.func75 (by kernel_rfl) rfl #[.int .i64 a1] rfl (by (try simp only [List.map_toArray,List.map_cons,List.map_nil]);first|done|rfl|(simp only [List.length_drop,List.length_take];rfl)) ?_;(with_reducible refine (texts_Number.calls a1 t225 _ A7.out).mono ?_);rintro e w11 ⟨v226,rfl,ho0,hb⟩;refine ⟨_,rfl,?_⟩;have n0_:=z_ (Kd.V_below (by (with_reducible repeat (first|apply Kd.V_alloc|apply Kd.V_drewN|apply Kd.V_drew));exact HO4.out) hb);have n1_:=z_ (Kd.V_below (by (with_reducible repeat (first|apply Kd.V_alloc|apply Kd.V_drewN|apply Kd.V_drew));exact HO5.out) hb);have n2_:=z_ (Kd.V_lower (Kd.V_mono (ok':=fun k_=>((P4_ k_\/P5_ k_)\/w.heap.size<=k_)) ho0 (fun k_ hk_=>(.inr (Nat.le_trans (below_size (by repeat (first|(with_reducible first|exact HB.out|apply below_alloc|apply pw_below_drewN|apply below_drew1)|exact HB.out))) hk_)))) (below_size (by repeat (first|(with_reducible first|exact HB.out|apply below_alloc|apply pw_below_drewN|apply below_drew1)|exact HB.out))));have n3_:=z_ (below_step (by repeat (first|(with_reducible first|exact HB.out|apply below_alloc|apply pw_below_drewN|apply below_drew1)|exact HB.out)) hb);clear HO4;clear HO5;clear HB;have HO4:=n0_;have HO5:=n1_;have HO227:=n2_;have HB:=n3_;clear n0_ n1_ n2_ n3_;(try clear hb);(try clear hb2);(try clear hk);(try clear hi);(try clear ho0))|((with_reducible refine gate_callee (f:=62) rfl ?_);refine goesL_ (some 18) rfl rfl Tryz.func62 (by kernel_rfl) rfl #[.slice A2 l2.length c2,.int .i64 a1] rfl (by (try simp only [List.map_toArray,List.map_cons,List.map_nil]);first|done|rfl|(simp only [List.length_drop,List.length_take];rfl)) ?_;(with_reducible refine (bits_First.calls _ _ l2 a1 t228 _ ?side1 ?side2 A8.out).mono ?_);(case side1=>repeat (first|exact (Kd.C_below HR2.out HB.out)|(with_reducible refine Kd.C_alloc ?_ _)|(with_reducible refine Kd.C_drewN ?_ _)|(with_reducible refine Kd.C_drew ?_)));(case side2=>exact HC2.out);rintro e w12 ⟨v229,rfl,ho0,hb⟩;refine ⟨_,rfl,?_⟩;have n0_:=z_ (Kd.V_elder' (by (with_reducible repeat (first|apply Kd.V_alloc|apply Kd.V_drewN|apply Kd.V_drew));exact HO4.out) (Kd.R_base ho0) hb);have n1_:=z_ (Kd.V_elder' (by (with_reducible repeat (first|apply Kd.V_alloc|apply Kd.V_drewN|apply Kd.V_drew));exact HO5.out) (Kd.R_base ho0) hb);have n2_:=z_ (Kd.V_elder' (by (with_reducible repeat (first|apply Kd.V_alloc|apply Kd.V_drewN|apply Kd.V_drew));exact HO227.out) (Kd.R_base ho0) hb);have n3_:=z_ (Kd.R_lower (Kd.R_newM (M:=fun k_=>(w.heap.size<=k_)) ho0 (below_size (by repeat (first|(with_reducible first|exact HB.out|apply below_alloc|apply pw_below_drewN|apply below_drew1)|exact HB.out))) (fun k_ h_=>h_)) (below_size (by repeat (first|(with_reducible first|exact HB.out|apply below_alloc|apply pw_below_drewN|apply below_drew1)|exact HB.out))));have n4_:=z_ (below_step (by repeat (first|(with_reducible first|exact HB.out|apply below_alloc|apply pw_below_drewN|apply below_drew1)|exact HB.out)) hb);clear HO4;clear HO5;clear HO227;clear HB;have HO4:=n0_;have HO5:=n1_;have HO227:=n2_;have HO230:=n3_;have HB:=n4_;clear n0_ n1_ n2_ n3_ n4_;(try clear hb);(try clear hb2);(try clear hk);(try clear hi);(try clear ho0))|((with_reducible refine gate_callee (f:=75) rfl ?_);refine goesL_ (some 20) rfl rfl Tryz.func75 (by kernel_rfl) rfl #[.int .i64 a3] rfl (by (try simp only [List.map_toArray,List.map_cons,List.map_nil]);first|done|rfl|(simp only [List.length_drop,List.length_take];rfl)) ?_;(with_reducible refine (texts_Number.calls a3 t231 _ A9.out).mono ?_);rintro e w13 ⟨v232,rfl,ho0,hb⟩;refine ⟨_,rfl,?_⟩;have n0_:=z_ (Kd.V_below (by (with_reducible repeat (first|apply Kd.V_alloc|apply Kd.V_drewN|apply Kd.V_drew));exact HO4.out) hb);have n1_:=z_ (Kd.V_below (by (with_reducible repeat (first|apply Kd.V_alloc|apply Kd.V_drewN|apply Kd.V_drew));exact HO5.out) hb);have n2_:=z_ (Kd.V_below (by (with_reducible repeat (first|apply Kd.V_alloc|apply Kd.V_drewN|apply Kd.V_drew));exact HO227.out) hb);have n3_:=z_ (Kd.R_below (by (with_reducible repeat (first|apply Kd.R_alloc|apply Kd.R_drewN|apply Kd.R_drew));exact HO230.out) hb);have n4_:=z_ (Kd.V_lower (Kd.V_mono (ok':=fun k_=>((P4_ k_\/P5_ k_)\/w.heap.size<=k_)/\some k_≠(v229:Value).ownBlock) ho0 (fun k_ hk_=>⟨(.inr (Nat.le_trans (below_size (by repeat (first|(with_reducible first|exact HB.out|apply below_alloc|apply pw_below_drewN|apply below_drew1)|exact HB.out))) hk_)),(Kd.fresh' (Kd.R_lt (by (with_reducible repeat (first|apply Kd.R_alloc|apply Kd.R_drewN|apply Kd.R_drew));exact HO230.out)) k_ hk_)⟩)) (below_size (by repeat (first|(with_reducible first|exact HB.out|apply below_alloc|apply pw_below_drewN|apply below_drew1)|exact HB.out))));have n5_:=z_ (below_step (by repeat (first|(with_reducible first|exact HB.out|apply below_alloc|apply pw_below_drewN|apply below_drew1)|exact HB.out)) hb);clear HO4;clear HO5;clear HO227;clear HO230;clear HB;have HO4:=n0_;have HO5:=n1_;have HO227:=n2_;have HO230:=n3_;have HO233:=n4_;have HB:=n5_;clear n0_ n1_ n2_ n3_ n4_ n5_;(try clear hb);(try clear hb2);(try clear hk);(try clear hi);(try clear ho0);obtain ⟨Ao14,co14,eo14⟩:=Kd.V_slice HO227.out;subst eo14;obtain ⟨Ao15,co15,eo15⟩:=Kd.R_slice HO230.out;subst eo15;obtain ⟨Ao16,co16,eo16⟩:=Kd.V_slice HO233.out;subst eo16)|((with_reducible refine gate_dst (N:=23) rfl ?_);refine Kd.N_lit (Kd.slice 5 (Kd.int .u8)) _ 23 ?hg (N':=23) ?hd (xs:=([t225,t228,t231,l4,l5]:List (List Int))) (inner:=[.slice Ao14 t225.length co14,.slice Ao15 t228.length co15,.slice Ao16 t231.length co16,.slice A4 l4.length c4,.slice A5 l5.length c5]) (ok:=(fun k_=>((P4_ k_\/P5_ k_)\/w.heap.size<=k_))) (okp:=(fun k_=>((P4_ k_\/P5_ k_)\/w.heap.size<=k_))) ?hr ?hp (fun _ hk=>hk) ((show ∀k_,w13.heap.size<=k_->(fun k_=>((P4_ k_\/P5_ k_)\/w.heap.size<=k_)) k_ from fun k_ hk=>(.inr (Nat.le_trans (below_size (by repeat (first|(with_reducible first|exact HB.out|apply below_alloc|apply pw_below_drewN|apply below_drew1)|exact HB.out))) hk))) _ (Nat.le_refl _)) (Below.refl _ _) (Nat.le_refl _) (by simp) ?_;(case hd=>rfl);(case hg=>rfl);(case hr=>first|(go_simp;done)|(go_simp;rfl));(case hp=>exact (Reps.one (show Kd.FK (Kd.slice 5 (Kd.int .u8)) _ _ t225 [.slice Ao14 t225.length co14] from (Kd.FK_slice_mk (Kd.V_reads' (Kd.V_mono (ok':=(fun k_=>((P4_ k_\/P5_ k_)\/w.heap.size<=k_))) (HO227.out) (fun k_ hk=>hk.1))).2.1 (Kd.V_F (Kd.V_mono (ok':=(fun k_=>((P4_ k_\/P5_ k_)\/w.heap.size<=k_))) (HO227.out) (fun k_ hk=>hk.1))))) (Reps.one (show Kd.FK (Kd.slice 5 (Kd.int .u8)) _ _ t228 [.slice Ao15 t228.length co15] from (Kd.FK_slice_mk (Kd.R_reads' (Kd.R_mono (ok':=(fun k_=>((P4_ k_\/P5_ k_)\/w.heap.size<=k_))) (HO230.out) (fun k_ hk=>(.inr (hk.1))))).2.1 (Kd.R_F (Kd.R_mono (ok':=(fun k_=>((P4_ k_\/P5_ k_)\/w.heap.size<=k_))) (HO230.out) (fun k_ hk=>(.inr (hk.1))))))) (Reps.one (show Kd.FK (Kd.slice 5 (Kd.int .u8)) _ _ t231 [.slice Ao16 t231.length co16] from (Kd.FK_slice_mk (Kd.V_reads' (Kd.V_mono (ok':=(fun k_=>((P4_ k_\/P5_ k_)\/w.heap.size<=k_))) (HO233.out) (fun k_ hk=>hk.1))).2.1 (Kd.V_F (Kd.V_mono (ok':=(fun k_=>((P4_ k_\/P5_ k_)\/w.heap.size<=k_))) (HO233.out) (fun k_ hk=>hk.1))))) (Reps.one (show Kd.FK (Kd.slice 5 (Kd.int .u8)) _ _ l4 [.slice A4 l4.length c4] from (Kd.FK_slice_mk (Kd.V_reads' (Kd.V_mono (ok':=(fun k_=>((P4_ k_\/P5_ k_)\/w.heap.size<=k_))) (HO4.out) (fun k_ hk=>hk.1))).2.1 (Kd.V_F (Kd.V_mono (ok':=(fun k_=>((P4_ k_\/P5_ k_)\/w.heap.size<=k_))) (HO4.out) (fun k_ hk=>hk.1))))) (Reps.one (show Kd.FK (Kd.slice 5 (Kd.int .u8)) _ _ l5 [.slice A5 l5.length c5] from (Kd.FK_slice_mk (Kd.V_reads' (Kd.V_mono (ok':=(fun k_=>((P4_ k_\/P5_ k_)\/w.heap.size<=k_))) (HO5.out) (fun k_ hk=>hk.1))).2.1 (Kd.V_F (Kd.V_mono (ok':=(fun k_=>((P4_ k_\/P5_ k_)\/w.heap.size<=k_))) (HO5.out) (fun k_ hk=>hk.1))))) (Reps.none _ _)))))));intro v235 w17 ho18 hb hg_ hnew_;clear hg_ hnew_;(first|rw [<-Ny234.out] at ho18|(simp only [Int.reduceToNat] at ho18;rw [<-Ny234.out] at ho18));have n0_:=z_ (Kd.V_elder' (by (with_reducible repeat (first|apply Kd.V_alloc|apply Kd.V_drewN|apply Kd.V_drew));exact HO4.out) (Kd.N_base ho18) hb);have n1_:=z_ (Kd.V_elder' (by (with_reducible repeat (first|apply Kd.V_alloc|apply Kd.V_drewN|apply Kd.V_drew));exact HO5.out) (Kd.N_base ho18) hb);have n2_:=z_ (Kd.V_elder' (by (with_reducible repeat (first|apply Kd.V_alloc|apply Kd.V_drewN|apply Kd.V_drew));exact HO227.out) (Kd.N_base ho18) hb);have n3_:=z_ (Kd.V_elder' (by (with_reducible repeat (first|apply Kd.V_alloc|apply Kd.V_drewN|apply Kd.V_drew));exact HO233.out) (Kd.N_base ho18) hb);have n4_:=z_ (Kd.N_lower ho18 (below_size (by repeat (first|(with_reducible first|exact HB.out|apply below_alloc|apply pw_below_drewN|apply below_drew1)|exact HB.out))));have n5_:=z_ (below_step (by repeat (first|(with_reducible first|exact HB.out|apply below_alloc|apply pw_below_drewN|apply below_drew1)|exact HB.out)) hb);clear HO4;clear HO5;clear HO227;clear HO233;clear HB;clear HO230;have HO4:=n0_;have HO5:=n1_;have HO227:=n2_;have HO233:=n3_;have HO236:=n4_;have HB:=n5_;clear n0_ n1_ n2_ n3_ n4_ n5_;clear hb ho18;obtain ⟨Ao19,co19,eo19⟩:=Kd.N_slice HO236.out;subst eo19)|((with_reducible refine gate_callee (f:=50) rfl ?_);refine goesL_ (some 24) rfl rfl Tryz.func50 (by kernel_rfl) rfl #[.int .i64 a0,.int .i64 2,.slice Ao19 y234.length co19] rfl (by (try simp only [List.map_toArray,List.map_cons,List.map_nil]);first|done|rfl|(simp only [List.length_drop,List.length_take];rfl)) ?_;(with_reducible refine (texts_Hash.calls k a0 2 _ _ y234 t237 _ ?side1 ?side2 (by first|(with_reducible exact HGS.out)|exact GlobS.of HGS.out (by repeat (first|(with_reducible first|exact HB.out|apply below_alloc|apply pw_below_drewN|apply below_drew1)|exact HB.out))|exact GlobS.of HGS.out (by repeat (first|exact Below.refl _ _|apply below_alloc|apply pw_below_drewN|apply below_drew1))) A10.out).mono ?_);(case side1=>repeat (first|exact (Kd.N_reads' HO236.out).2.2|(with_reducible refine Kd.C_alloc ?_ _)|(with_reducible refine Kd.C_drewN ?_ _)|(with_reducible refine Kd.C_drew ?_)));(case side2=>exact (Kd.N_reads' HO236.out).2.1);rintro e w20 ⟨v238,rfl,ho0,hb⟩;refine ⟨_,rfl,?_⟩;have n0_:=z_ (Kd.V_below (by (with_reducible repeat (first|apply Kd.V_alloc|apply Kd.V_drewN|apply Kd.V_drew));exact HO4.out) hb);have n1_:=z_ (Kd.V_below (by (with_reducible repeat (first|apply Kd.V_alloc|apply Kd.V_drewN|apply Kd.V_drew));exact HO5.out) hb);have n2_:=z_ (Kd.V_below (by (with_reducible repeat (first|apply Kd.V_alloc|apply Kd.V_drewN|apply Kd.V_drew));exact HO227.out) hb);have n3_:=z_ (Kd.V_below (by (with_reducible repeat (first|apply Kd.V_alloc|apply Kd.V_drewN|apply Kd.V_drew));exact HO233.out) hb);have n4_:=z_ (Kd.N_below (by (with_reducible repeat (first|apply Kd.N_alloc|apply Kd.N_drewN|apply Kd.N_drew));exact HO236.out) hb);have n5_:=z_ (Kd.V_lower (Kd.V_mono (ok':=fun k_=>((P4_ k_\/P5_ k_)\/w.heap.size<=k_)/\some k_≠(.slice Ao19 y234.length co19:Value).ownBlock) ho0 (fun k_ hk_=>⟨(.inr (Nat.le_trans (below_size (by repeat (first|(with_reducible first|exact HB.out|apply below_alloc|apply pw_below_drewN|apply below_drew1)|exact HB.out))) hk_)),(Kd.fresh' (Kd.N_lt (by (with_reducible repeat (first|apply Kd.N_alloc|apply Kd.N_drewN|apply Kd.N_drew));exact HO236.out)) k_ hk_)⟩)) (below_size (by repeat (first|(with_reducible first|exact HB.out|apply below_alloc|apply pw_below_drewN|apply below_drew1)|exact HB.out))));have n6_:=z_ (below_step (by repeat (first|(with_reducible first|exact HB.out|apply below_alloc|apply pw_below_drewN|apply below_drew1)|exact HB.out)) hb);clear HO4;clear HO5;clear HO227;clear HO233;clear HO236;clear HB;have HO4:=n0_;have HO5:=n1_;have HO227:=n2_;have HO233:=n3_;have HO236:=n4_;have HO239:=n5_;have HB:=n6_;clear n0_ n1_ n2_ n3_ n4_ n5_ n6_;(try clear hb);(try clear hb2);(try clear hk);(try clear hi);(try clear ho0)))
 go_ret
 exact ⟨_,by first|rfl|(simp [errW_none,errW_some]<;>rfl)|(simp [*,errW_none,errW_some]<;>rfl),by (with_reducible repeat (first|apply Kd.V_alloc|apply Kd.V_drewN|apply Kd.V_drew));exact Kd.V_mono HO239.out (fun _ hk=>hk.1),by repeat (first|(with_reducible first|exact HB.out|apply below_alloc|apply pw_below_drewN|apply below_drew1)|exact HB.out)⟩
def annalsref09_LeafHash.f (k:Nat) (a0:Int) (l1:List Int) (l2:List Int) (a3:Int):Option (List Int):=(annalsref02_Number.f k a3).bind fun t288=>((annalsref02_Hash.f k a0 1 (([l1,l2,t288]:List (List Int)))).bind fun t294=>(some t294))
set_option maxHeartbeats 8000000 in
set_option maxRecDepth 100000 in
theorem annalsref09_LeafHash.calls (k:Nat) (a0:Int) (P1_:Nat->Prop) (A1:Option Addr) (c1:Nat) (l1:List Int) (P2_:Nat->Prop) (A2:Option Addr) (c2:Nat) (l2:List Int) (a3:Int) (r:List Int) (w:World) (hs1:Kd.V (Kd.int .u8) 5 w w.heap.size (fun k_=>P1_ k_) (.slice A1 l1.length c1) l1) (hs2:Kd.V (Kd.int .u8) 5 w w.heap.size (fun k_=>P2_ k_) (.slice A2 l2.length c2) l2) (h:annalsref09_LeafHash.f k a0 l1 l2 a3=some r):
 Calls Tryz.prog 65 #[.int .i64 a0,.slice A1 l1.length c1,.slice A2 l2.length c2,.int .i64 a3] w fun e w'=>∃v0_:Value,e = .returned (v0_)/\Kd.R (Kd.int .u8) 5 w' w.heap.size (fun k_=>(w.heap.size<=k_)) v0_ r/\Below w.heap.size w w':=by
 have HO1:=z_ (show Kd.V (Kd.int .u8) 5 w w.heap.size (fun k_=>((P1_ k_\/P2_ k_)\/w.heap.size<=k_)) (.slice A1 l1.length c1) l1 from Kd.V_mono hs1 (fun k_ hk=>.inl (.inl hk)))
 have HO2:=z_ (show Kd.V (Kd.int .u8) 5 w w.heap.size (fun k_=>((P1_ k_\/P2_ k_)\/w.heap.size<=k_)) (.slice A2 l2.length c2) l2 from Kd.V_mono hs2 (fun k_ hk=>.inl (.inr hk)))
 have HB:=z_ (Below.refl w.heap.size w)
 have H:((annalsref02_Number.f k a3).bind fun t288=>((annalsref02_Hash.f k a0 1 (([l1,l2,t288]:List (List Int)))).bind fun t294=>(some t294)))=some r:=h
 clear h
 replace H:=Option.bind_eq_some_iff.mp H
 obtain ⟨t288,A50,H⟩:=H
 replace H:((annalsref02_Hash.f k a0 1 (([l1,l2,t288]:List (List Int)))).bind fun t294=>(some t294))=some r:=H
 have A5:=z_ A50
 clear A50
 obtain ⟨y291,hy291⟩ : ∃y_:List (List Int),y_=(([l1,l2,t288]:List (List Int))):=⟨_,rfl⟩
 replace H:((annalsref02_Hash.f k a0 1 y291).bind fun t294=>(some t294))=some r:=by first|(rw [hy291];with_reducible exact H)|(have H2_:=(Option.bind_some _ _).symm.trans H;rw [hy291];with_reducible exact H2_)|(have H2_:=(Option.bind_some _ _).symm.trans H;with_reducible exact H2_)|with_reducible exact H|(rw [hy291];exact H)|exact H
 have Ny291:=z_ hy291
 clear hy291
 replace H:=Option.bind_eq_some_iff.mp H
 obtain ⟨t294,A60,H⟩:=H
 replace H:(some t294)=some r:=H
 have A6:=z_ A60
 clear A60
 obtain rfl:=Option.some.inj H
 go_enter Tryz.func65,Tryz.ntmps65
 go_wp2_with (first|((with_reducible refine gate_callee (f:=78) rfl ?_);refine goesL_ (some 13) rfl rfl Tryz.func78 (by kernel_rfl) rfl #[.int .i64 a3] rfl (by (try simp only [List.map_toArray,List.map_cons,List.map_nil]);first|done|rfl|(simp only [List.length_drop,List.length_take];rfl)) ?_;(with_reducible refine (annalsref02_Number.calls k a3 t288 _ A5.out).mono ?_);rintro e w7 ⟨v289,rfl,ho0,hb⟩;refine ⟨_,rfl,?_⟩;have n0_:=z_ (Kd.V_elder' (by (with_reducible repeat (first|apply Kd.V_alloc|apply Kd.V_drewN|apply Kd.V_drew));exact HO1.out) (Kd.R_base ho0) hb);have n1_:=z_ (Kd.V_elder' (by (with_reducible repeat (first|apply Kd.V_alloc|apply Kd.V_drewN|apply Kd.V_drew));exact HO2.out) (Kd.R_base ho0) hb);have n2_:=z_ (Kd.R_lower (Kd.R_newM (M:=fun k_=>(w.heap.size<=k_)) ho0 (below_size (by repeat (first|(with_reducible first|exact HB.out|apply below_alloc|apply pw_below_drewN|apply below_drew1)|exact HB.out))) (fun k_ h_=>h_)) (below_size (by repeat (first|(with_reducible first|exact HB.out|apply below_alloc|apply pw_below_drewN|apply below_drew1)|exact HB.out))));have n3_:=z_ (below_step (by repeat (first|(with_reducible first|exact HB.out|apply below_alloc|apply pw_below_drewN|apply below_drew1)|exact HB.out)) hb);clear HO1;clear HO2;clear HB;have HO1:=n0_;have HO2:=n1_;have HO290:=n2_;have HB:=n3_;clear n0_ n1_ n2_ n3_;(try clear hb);(try clear hb2);(try clear hk);(try clear hi);(try clear ho0);obtain ⟨Ao8,co8,eo8⟩:=Kd.R_slice HO290.out;subst eo8)|((with_reducible refine gate_dst (N:=14) rfl ?_);refine Kd.N_lit (Kd.slice 5 (Kd.int .u8)) _ 23 ?hg (N':=14) ?hd (xs:=([l1,l2,t288]:List (List Int))) (inner:=[.slice A1 l1.length c1,.slice A2 l2.length c2,.slice Ao8 t288.length co8]) (ok:=(fun k_=>((P1_ k_\/P2_ k_)\/w.heap.size<=k_))) (okp:=(fun k_=>((P1_ k_\/P2_ k_)\/w.heap.size<=k_))) ?hr ?hp (fun _ hk=>hk) ((show ∀k_,w7.heap.size<=k_->(fun k_=>((P1_ k_\/P2_ k_)\/w.heap.size<=k_)) k_ from fun k_ hk=>(.inr (Nat.le_trans (below_size (by repeat (first|(with_reducible first|exact HB.out|apply below_alloc|apply pw_below_drewN|apply below_drew1)|exact HB.out))) hk))) _ (Nat.le_refl _)) (Below.refl _ _) (Nat.le_refl _) (by simp) ?_;(case hd=>rfl);(case hg=>rfl);(case hr=>first|(go_simp;done)|(go_simp;rfl));(case hp=>exact (Reps.one (show Kd.FK (Kd.slice 5 (Kd.int .u8)) _ _ l1 [.slice A1 l1.length c1] from (Kd.FK_slice_mk (Kd.V_reads' (Kd.V_mono (ok':=(fun k_=>((P1_ k_\/P2_ k_)\/w.heap.size<=k_))) (HO1.out) (fun k_ hk=>hk.1))).2.1 (Kd.V_F (Kd.V_mono (ok':=(fun k_=>((P1_ k_\/P2_ k_)\/w.heap.size<=k_))) (HO1.out) (fun k_ hk=>hk.1))))) (Reps.one (show Kd.FK (Kd.slice 5 (Kd.int .u8)) _ _ l2 [.slice A2 l2.length c2] from (Kd.FK_slice_mk (Kd.V_reads' (Kd.V_mono (ok':=(fun k_=>((P1_ k_\/P2_ k_)\/w.heap.size<=k_))) (HO2.out) (fun k_ hk=>hk.1))).2.1 (Kd.V_F (Kd.V_mono (ok':=(fun k_=>((P1_ k_\/P2_ k_)\/w.heap.size<=k_))) (HO2.out) (fun k_ hk=>hk.1))))) (Reps.one (show Kd.FK (Kd.slice 5 (Kd.int .u8)) _ _ t288 [.slice Ao8 t288.length co8] from (Kd.FK_slice_mk (Kd.R_reads' (Kd.R_mono (ok':=(fun k_=>((P1_ k_\/P2_ k_)\/w.heap.size<=k_))) (HO290.out) (fun k_ hk=>(.inr (hk.1))))).2.1 (Kd.R_F (Kd.R_mono (ok':=(fun k_=>((P1_ k_\/P2_ k_)\/w.heap.size<=k_))) (HO290.out) (fun k_ hk=>(.inr (hk.1))))))) (Reps.none _ _)))));intro v292 w9 ho10 hb hg_ hnew_;clear hg_ hnew_;(first|rw [<-Ny291.out] at ho10|(simp only [Int.reduceToNat] at ho10;rw [<-Ny291.out] at ho10));have n0_:=z_ (Kd.V_elder' (by (with_reducible repeat (first|apply Kd.V_alloc|apply Kd.V_drewN|apply Kd.V_drew));exact HO1.out) (Kd.N_base ho10) hb);have n1_:=z_ (Kd.V_elder' (by (with_reducible repeat (first|apply Kd.V_alloc|apply Kd.V_drewN|apply Kd.V_drew));exact HO2.out) (Kd.N_base ho10) hb);have n2_:=z_ (Kd.N_lower ho10 (below_size (by repeat (first|(with_reducible first|exact HB.out|apply below_alloc|apply pw_below_drewN|apply below_drew1)|exact HB.out))));have n3_:=z_ (below_step (by repeat (first|(with_reducible first|exact HB.out|apply below_alloc|apply pw_below_drewN|apply below_drew1)|exact HB.out)) hb);clear HO1;clear HO2;clear HB;clear HO290;have HO1:=n0_;have HO2:=n1_;have HO293:=n2_;have HB:=n3_;clear n0_ n1_ n2_ n3_;clear hb ho10;obtain ⟨Ao11,co11,eo11⟩:=Kd.N_slice HO293.out;subst eo11)|((with_reducible refine gate_callee (f:=71) rfl ?_);refine goesL_ (some 15) rfl rfl Tryz.func71 (by kernel_rfl) rfl #[.int .i64 a0,.int .i64 1,.slice Ao11 y291.length co11] rfl (by (try simp only [List.map_toArray,List.map_cons,List.map_nil]);first|done|rfl|(simp only [List.length_drop,List.length_take];rfl)) ?_;(with_reducible refine (annalsref02_Hash.calls k a0 1 _ _ y291 t294 _ ?side1 ?side2 A6.out).mono ?_);(case side1=>repeat (first|exact (Kd.N_reads' HO293.out).2.2|(with_reducible refine Kd.C_alloc ?_ _)|(with_reducible refine Kd.C_drewN ?_ _)|(with_reducible refine Kd.C_drew ?_)));(case side2=>exact (Kd.N_reads' HO293.out).2.1);rintro e w12 ⟨v295,rfl,ho0,hb⟩;refine ⟨_,rfl,?_⟩;have n0_:=z_ (Kd.V_elder' (by (with_reducible repeat (first|apply Kd.V_alloc|apply Kd.V_drewN|apply Kd.V_drew));exact HO1.out) (Kd.R_base ho0) hb);have n1_:=z_ (Kd.V_elder' (by (with_reducible repeat (first|apply Kd.V_alloc|apply Kd.V_drewN|apply Kd.V_drew));exact HO2.out) (Kd.R_base ho0) hb);have n2_:=z_ (Kd.N_elder' (by (with_reducible repeat (first|apply Kd.N_alloc|apply Kd.N_drewN|apply Kd.N_drew));exact HO293.out) (Kd.R_base ho0) hb);have n3_:=z_ (Kd.R_lower (Kd.R_newM (M:=fun k_=>(w.heap.size<=k_)) ho0 (below_size (by repeat (first|(with_reducible first|exact HB.out|apply below_alloc|apply pw_below_drewN|apply below_drew1)|exact HB.out))) (fun k_ h_=>h_)) (below_size (by repeat (first|(with_reducible first|exact HB.out|apply below_alloc|apply pw_below_drewN|apply below_drew1)|exact HB.out))));have n4_:=z_ (below_step (by repeat (first|(with_reducible first|exact HB.out|apply below_alloc|apply pw_below_drewN|apply below_drew1)|exact HB.out)) hb);clear HO1;clear HO2;clear HO293;clear HB;have HO1:=n0_;have HO2:=n1_;have HO293:=n2_;have HO296:=n3_;have HB:=n4_;clear n0_ n1_ n2_ n3_ n4_;(try clear hb);(try clear hb2);(try clear hk);(try clear hi);(try clear ho0)))
 go_ret
 exact ⟨_,by first|rfl|(simp [errW_none,errW_some]<;>rfl)|(simp [*,errW_none,errW_some]<;>rfl),by (with_reducible repeat (first|apply Kd.R_alloc|apply Kd.R_drewN|apply Kd.R_drew));exact Kd.R_mono HO296.out (fun _ hk=>hk.1),by repeat (first|(with_reducible first|exact HB.out|apply below_alloc|apply pw_below_drewN|apply below_drew1)|exact HB.out)⟩
def annalsref09_ForkHash.f (k:Nat) (a0:Int) (a1:Int) (l2:List Int) (a3:Int) (l4:List Int) (l5:List Int):Option (List Int):=(annalsref02_Number.f k a1).bind fun t312=>((annalsref03_First.f k l2 a1).bind fun t315=>((annalsref02_Number.f k a3).bind fun t318=>((annalsref02_Hash.f k a0 2 (([t312,t315,t318,l4,l5]:List (List Int)))).bind fun t324=>(some t324))))
set_option maxHeartbeats 8000000 in
set_option maxRecDepth 100000 in
theorem annalsref09_ForkHash.calls (k:Nat) (a0:Int) (a1:Int) (A2:Option Addr) (c2:Nat) (l2:List Int) (a3:Int) (P4_:Nat->Prop) (A4:Option Addr) (c4:Nat) (l4:List Int) (P5_:Nat->Prop) (A5:Option Addr) (c5:Nat) (l5:List Int) (r:List Int) (w:World) (hr2:Kd.C (Kd.int .u8) w A2 l2.length l2) (hc2:l2.length<=c2) (hs4:Kd.V (Kd.int .u8) 5 w w.heap.size (fun k_=>P4_ k_) (.slice A4 l4.length c4) l4) (hs5:Kd.V (Kd.int .u8) 5 w w.heap.size (fun k_=>P5_ k_) (.slice A5 l5.length c5) l5) (h:annalsref09_ForkHash.f k a0 a1 l2 a3 l4 l5=some r):
 Calls Tryz.prog 67 #[.int .i64 a0,.int .i64 a1,.slice A2 l2.length c2,.int .i64 a3,.slice A4 l4.length c4,.slice A5 l5.length c5] w fun e w'=>∃v0_:Value,e = .returned (v0_)/\Kd.R (Kd.int .u8) 5 w' w.heap.size (fun k_=>(w.heap.size<=k_)) v0_ r/\Below w.heap.size w w':=by
 have HR2:=z_ hr2
 have HC2:=z_ hc2
 clear hr2 hc2
 have HO4:=z_ (show Kd.V (Kd.int .u8) 5 w w.heap.size (fun k_=>((P4_ k_\/P5_ k_)\/w.heap.size<=k_)) (.slice A4 l4.length c4) l4 from Kd.V_mono hs4 (fun k_ hk=>.inl (.inl hk)))
 have HO5:=z_ (show Kd.V (Kd.int .u8) 5 w w.heap.size (fun k_=>((P4_ k_\/P5_ k_)\/w.heap.size<=k_)) (.slice A5 l5.length c5) l5 from Kd.V_mono hs5 (fun k_ hk=>.inl (.inr hk)))
 have HB:=z_ (Below.refl w.heap.size w)
 have H:((annalsref02_Number.f k a1).bind fun t312=>((annalsref03_First.f k l2 a1).bind fun t315=>((annalsref02_Number.f k a3).bind fun t318=>((annalsref02_Hash.f k a0 2 (([t312,t315,t318,l4,l5]:List (List Int)))).bind fun t324=>(some t324)))))=some r:=h
 clear h
 replace H:=Option.bind_eq_some_iff.mp H
 obtain ⟨t312,A70,H⟩:=H
 replace H:((annalsref03_First.f k l2 a1).bind fun t315=>((annalsref02_Number.f k a3).bind fun t318=>((annalsref02_Hash.f k a0 2 (([t312,t315,t318,l4,l5]:List (List Int)))).bind fun t324=>(some t324))))=some r:=H
 have A7:=z_ A70
 clear A70
 replace H:=Option.bind_eq_some_iff.mp H
 obtain ⟨t315,A80,H⟩:=H
 replace H:((annalsref02_Number.f k a3).bind fun t318=>((annalsref02_Hash.f k a0 2 (([t312,t315,t318,l4,l5]:List (List Int)))).bind fun t324=>(some t324)))=some r:=H
 have A8:=z_ A80
 clear A80
 replace H:=Option.bind_eq_some_iff.mp H
 obtain ⟨t318,A90,H⟩:=H
 replace H:((annalsref02_Hash.f k a0 2 (([t312,t315,t318,l4,l5]:List (List Int)))).bind fun t324=>(some t324))=some r:=H
 have A9:=z_ A90
 clear A90
 obtain ⟨y321,hy321⟩ : ∃y_:List (List Int),y_=(([t312,t315,t318,l4,l5]:List (List Int))):=⟨_,rfl⟩
 replace H:((annalsref02_Hash.f k a0 2 y321).bind fun t324=>(some t324))=some r:=by first|(rw [hy321];with_reducible exact H)|(have H2_:=(Option.bind_some _ _).symm.trans H;rw [hy321];with_reducible exact H2_)|(have H2_:=(Option.bind_some _ _).symm.trans H;with_reducible exact H2_)|with_reducible exact H|(rw [hy321];exact H)|exact H
 have Ny321:=z_ hy321
 clear hy321
 replace H:=Option.bind_eq_some_iff.mp H
 obtain ⟨t324,A100,H⟩:=H
 replace H:(some t324)=some r:=H
 have A10:=z_ A100
 clear A100
 obtain rfl:=Option.some.inj H
 go_enter Tryz.func67,Tryz.ntmps67
 go_wp2_with (first|((with_reducible refine gate_callee (f:=78) rfl ?_);refine goesL_ (some 15) rfl rfl Tryz.func78 (by kernel_rfl) rfl #[.int .i64 a1] rfl (by (try simp only [List.map_toArray,List.map_cons,List.map_nil]);first|done|rfl|(simp only [List.length_drop,List.length_take];rfl)) ?_;(with_reducible refine (annalsref02_Number.calls k a1 t312 _ A7.out).mono ?_);rintro e w11 ⟨v313,rfl,ho0,hb⟩;refine ⟨_,rfl,?_⟩;have n0_:=z_ (Kd.V_elder' (by (with_reducible repeat (first|apply Kd.V_alloc|apply Kd.V_drewN|apply Kd.V_drew));exact HO4.out) (Kd.R_base ho0) hb);have n1_:=z_ (Kd.V_elder' (by (with_reducible repeat (first|apply Kd.V_alloc|apply Kd.V_drewN|apply Kd.V_drew));exact HO5.out) (Kd.R_base ho0) hb);have n2_:=z_ (Kd.R_lower (Kd.R_newM (M:=fun k_=>(w.heap.size<=k_)) ho0 (below_size (by repeat (first|(with_reducible first|exact HB.out|apply below_alloc|apply pw_below_drewN|apply below_drew1)|exact HB.out))) (fun k_ h_=>h_)) (below_size (by repeat (first|(with_reducible first|exact HB.out|apply below_alloc|apply pw_below_drewN|apply below_drew1)|exact HB.out))));have n3_:=z_ (below_step (by repeat (first|(with_reducible first|exact HB.out|apply below_alloc|apply pw_below_drewN|apply below_drew1)|exact HB.out)) hb);clear HO4;clear HO5;clear HB;have HO4:=n0_;have HO5:=n1_;have HO314:=n2_;have HB:=n3_;clear n0_ n1_ n2_ n3_;(try clear hb);(try clear hb2);(try clear hk);(try clear hi);(try clear ho0))|((with_reducible refine gate_callee (f:=66) rfl ?_);refine goesL_ (some 18) rfl rfl Tryz.func66 (by kernel_rfl) rfl #[.slice A2 l2.length c2,.int .i64 a1] rfl (by (try simp only [List.map_toArray,List.map_cons,List.map_nil]);first|done|rfl|(simp only [List.length_drop,List.length_take];rfl)) ?_;(with_reducible refine (annalsref03_First.calls k _ _ l2 a1 t315 _ ?side1 ?side2 A8.out).mono ?_);(case side1=>repeat (first|exact (Kd.C_below HR2.out HB.out)|(with_reducible refine Kd.C_alloc ?_ _)|(with_reducible refine Kd.C_drewN ?_ _)|(with_reducible refine Kd.C_drew ?_)));(case side2=>exact HC2.out);rintro e w12 ⟨v316,rfl,ho0,hb⟩;refine ⟨_,rfl,?_⟩;have n0_:=z_ (Kd.V_elder' (by (with_reducible repeat (first|apply Kd.V_alloc|apply Kd.V_drewN|apply Kd.V_drew));exact HO4.out) (Kd.R_base ho0) hb);have n1_:=z_ (Kd.V_elder' (by (with_reducible repeat (first|apply Kd.V_alloc|apply Kd.V_drewN|apply Kd.V_drew));exact HO5.out) (Kd.R_base ho0) hb);have n2_:=z_ (Kd.R_elder' (by (with_reducible repeat (first|apply Kd.R_alloc|apply Kd.R_drewN|apply Kd.R_drew));exact HO314.out) (Kd.R_base ho0) hb);have n3_:=z_ (Kd.R_lower (Kd.R_new' (Kd.R_newM (M:=fun k_=>(w.heap.size<=k_)) ho0 (below_size (by repeat (first|(with_reducible first|exact HB.out|apply below_alloc|apply pw_below_drewN|apply below_drew1)|exact HB.out))) (fun k_ h_=>h_)) (Kd.R_lt (by (with_reducible repeat (first|apply Kd.R_alloc|apply Kd.R_drewN|apply Kd.R_drew));exact HO314.out))) (below_size (by repeat (first|(with_reducible first|exact HB.out|apply below_alloc|apply pw_below_drewN|apply below_drew1)|exact HB.out))));have n4_:=z_ (below_step (by repeat (first|(with_reducible first|exact HB.out|apply below_alloc|apply pw_below_drewN|apply below_drew1)|exact HB.out)) hb);clear HO4;clear HO5;clear HO314;clear HB;have HO4:=n0_;have HO5:=n1_;have HO314:=n2_;have HO317:=n3_;have HB:=n4_;clear n0_ n1_ n2_ n3_ n4_;(try clear hb);(try clear hb2);(try clear hk);(try clear hi);(try clear ho0))|((with_reducible refine gate_callee (f:=78) rfl ?_);refine goesL_ (some 20) rfl rfl Tryz.func78 (by kernel_rfl) rfl #[.int .i64 a3] rfl (by (try simp only [List.map_toArray,List.map_cons,List.map_nil]);first|done|rfl|(simp only [List.length_drop,List.length_take];rfl)) ?_;(with_reducible refine (annalsref02_Number.calls k a3 t318 _ A9.out).mono ?_);rintro e w13 ⟨v319,rfl,ho0,hb⟩;refine ⟨_,rfl,?_⟩;have n0_:=z_ (Kd.V_elder' (by (with_reducible repeat (first|apply Kd.V_alloc|apply Kd.V_drewN|apply Kd.V_drew));exact HO4.out) (Kd.R_base ho0) hb);have n1_:=z_ (Kd.V_elder' (by (with_reducible repeat (first|apply Kd.V_alloc|apply Kd.V_drewN|apply Kd.V_drew));exact HO5.out) (Kd.R_base ho0) hb);have n2_:=z_ (Kd.R_elder' (by (with_reducible repeat (first|apply Kd.R_alloc|apply Kd.R_drewN|apply Kd.R_drew));exact HO314.out) (Kd.R_base ho0) hb);have n3_:=z_ (Kd.R_elder' (by (with_reducible repeat (first|apply Kd.R_alloc|apply Kd.R_drewN|apply Kd.R_drew));exact HO317.out) (Kd.R_base ho0) hb);have n4_:=z_ (Kd.R_lower (Kd.R_new' (Kd.R_new' (Kd.R_newM (M:=fun k_=>(w.heap.size<=k_)) ho0 (below_size (by repeat (first|(with_reducible first|exact HB.out|apply below_alloc|apply pw_below_drewN|apply below_drew1)|exact HB.out))) (fun k_ h_=>h_)) (Kd.R_lt (by (with_reducible repeat (first|apply Kd.R_alloc|apply Kd.R_drewN|apply Kd.R_drew));exact HO314.out))) (Kd.R_lt (by (with_reducible repeat (first|apply Kd.R_alloc|apply Kd.R_drewN|apply Kd.R_drew));exact HO317.out))) (below_size (by repeat (first|(with_reducible first|exact HB.out|apply below_alloc|apply pw_below_drewN|apply below_drew1)|exact HB.out))));have n5_:=z_ (below_step (by repeat (first|(with_reducible first|exact HB.out|apply below_alloc|apply pw_below_drewN|apply below_drew1)|exact HB.out)) hb);clear HO4;clear HO5;clear HO314;clear HO317;clear HB;have HO4:=n0_;have HO5:=n1_;have HO314:=n2_;have HO317:=n3_;have HO320:=n4_;have HB:=n5_;clear n0_ n1_ n2_ n3_ n4_ n5_;(try clear hb);(try clear hb2);(try clear hk);(try clear hi);(try clear ho0);obtain ⟨Ao14,co14,eo14⟩:=Kd.R_slice HO314.out;subst eo14;obtain ⟨Ao15,co15,eo15⟩:=Kd.R_slice HO317.out;subst eo15;obtain ⟨Ao16,co16,eo16⟩:=Kd.R_slice HO320.out;subst eo16)|((with_reducible refine gate_dst (N:=23) rfl ?_);refine Kd.N_lit (Kd.slice 5 (Kd.int .u8)) _ 23 ?hg (N':=23) ?hd (xs:=([t312,t315,t318,l4,l5]:List (List Int))) (inner:=[.slice Ao14 t312.length co14,.slice Ao15 t315.length co15,.slice Ao16 t318.length co16,.slice A4 l4.length c4,.slice A5 l5.length c5]) (ok:=(fun k_=>((P4_ k_\/P5_ k_)\/w.heap.size<=k_))) (okp:=(fun k_=>((P4_ k_\/P5_ k_)\/w.heap.size<=k_))) ?hr ?hp (fun _ hk=>hk) ((show ∀k_,w13.heap.size<=k_->(fun k_=>((P4_ k_\/P5_ k_)\/w.heap.size<=k_)) k_ from fun k_ hk=>(.inr (Nat.le_trans (below_size (by repeat (first|(with_reducible first|exact HB.out|apply below_alloc|apply pw_below_drewN|apply below_drew1)|exact HB.out))) hk))) _ (Nat.le_refl _)) (Below.refl _ _) (Nat.le_refl _) (by simp) ?_;(case hd=>rfl);(case hg=>rfl);(case hr=>first|(go_simp;done)|(go_simp;rfl));(case hp=>exact (Reps.one (show Kd.FK (Kd.slice 5 (Kd.int .u8)) _ _ t312 [.slice Ao14 t312.length co14] from (Kd.FK_slice_mk (Kd.R_reads' (Kd.R_mono (ok':=(fun k_=>((P4_ k_\/P5_ k_)\/w.heap.size<=k_))) (HO314.out) (fun k_ hk=>(.inr (hk.1.1.1))))).2.1 (Kd.R_F (Kd.R_mono (ok':=(fun k_=>((P4_ k_\/P5_ k_)\/w.heap.size<=k_))) (HO314.out) (fun k_ hk=>(.inr (hk.1.1.1))))))) (Reps.one (show Kd.FK (Kd.slice 5 (Kd.int .u8)) _ _ t315 [.slice Ao15 t315.length co15] from (Kd.FK_slice_mk (Kd.R_reads' (Kd.R_mono (ok':=(fun k_=>((P4_ k_\/P5_ k_)\/w.heap.size<=k_))) (HO317.out) (fun k_ hk=>(.inr (hk.1.1.1))))).2.1 (Kd.R_F (Kd.R_mono (ok':=(fun k_=>((P4_ k_\/P5_ k_)\/w.heap.size<=k_))) (HO317.out) (fun k_ hk=>(.inr (hk.1.1.1))))))) (Reps.one (show Kd.FK (Kd.slice 5 (Kd.int .u8)) _ _ t318 [.slice Ao16 t318.length co16] from (Kd.FK_slice_mk (Kd.R_reads' (Kd.R_mono (ok':=(fun k_=>((P4_ k_\/P5_ k_)\/w.heap.size<=k_))) (HO320.out) (fun k_ hk=>(.inr (hk.1.1.1))))).2.1 (Kd.R_F (Kd.R_mono (ok':=(fun k_=>((P4_ k_\/P5_ k_)\/w.heap.size<=k_))) (HO320.out) (fun k_ hk=>(.inr (hk.1.1.1))))))) (Reps.one (show Kd.FK (Kd.slice 5 (Kd.int .u8)) _ _ l4 [.slice A4 l4.length c4] from (Kd.FK_slice_mk (Kd.V_reads' (Kd.V_mono (ok':=(fun k_=>((P4_ k_\/P5_ k_)\/w.heap.size<=k_))) (HO4.out) (fun k_ hk=>hk.1.1.1))).2.1 (Kd.V_F (Kd.V_mono (ok':=(fun k_=>((P4_ k_\/P5_ k_)\/w.heap.size<=k_))) (HO4.out) (fun k_ hk=>hk.1.1.1))))) (Reps.one (show Kd.FK (Kd.slice 5 (Kd.int .u8)) _ _ l5 [.slice A5 l5.length c5] from (Kd.FK_slice_mk (Kd.V_reads' (Kd.V_mono (ok':=(fun k_=>((P4_ k_\/P5_ k_)\/w.heap.size<=k_))) (HO5.out) (fun k_ hk=>hk.1.1.1))).2.1 (Kd.V_F (Kd.V_mono (ok':=(fun k_=>((P4_ k_\/P5_ k_)\/w.heap.size<=k_))) (HO5.out) (fun k_ hk=>hk.1.1.1))))) (Reps.none _ _)))))));intro v322 w17 ho18 hb hg_ hnew_;clear hg_ hnew_;(first|rw [<-Ny321.out] at ho18|(simp only [Int.reduceToNat] at ho18;rw [<-Ny321.out] at ho18));have n0_:=z_ (Kd.V_elder' (by (with_reducible repeat (first|apply Kd.V_alloc|apply Kd.V_drewN|apply Kd.V_drew));exact HO4.out) (Kd.N_base ho18) hb);have n1_:=z_ (Kd.V_elder' (by (with_reducible repeat (first|apply Kd.V_alloc|apply Kd.V_drewN|apply Kd.V_drew));exact HO5.out) (Kd.N_base ho18) hb);have n2_:=z_ (Kd.N_lower ho18 (below_size (by repeat (first|(with_reducible first|exact HB.out|apply below_alloc|apply pw_below_drewN|apply below_drew1)|exact HB.out))));have n3_:=z_ (below_step (by repeat (first|(with_reducible first|exact HB.out|apply below_alloc|apply pw_below_drewN|apply below_drew1)|exact HB.out)) hb);clear HO4;clear HO5;clear HB;clear HO314;clear HO317;clear HO320;have HO4:=n0_;have HO5:=n1_;have HO323:=n2_;have HB:=n3_;clear n0_ n1_ n2_ n3_;clear hb ho18;obtain ⟨Ao19,co19,eo19⟩:=Kd.N_slice HO323.out;subst eo19)|((with_reducible refine gate_callee (f:=71) rfl ?_);refine goesL_ (some 24) rfl rfl Tryz.func71 (by kernel_rfl) rfl #[.int .i64 a0,.int .i64 2,.slice Ao19 y321.length co19] rfl (by (try simp only [List.map_toArray,List.map_cons,List.map_nil]);first|done|rfl|(simp only [List.length_drop,List.length_take];rfl)) ?_;(with_reducible refine (annalsref02_Hash.calls k a0 2 _ _ y321 t324 _ ?side1 ?side2 A10.out).mono ?_);(case side1=>repeat (first|exact (Kd.N_reads' HO323.out).2.2|(with_reducible refine Kd.C_alloc ?_ _)|(with_reducible refine Kd.C_drewN ?_ _)|(with_reducible refine Kd.C_drew ?_)));(case side2=>exact (Kd.N_reads' HO323.out).2.1);rintro e w20 ⟨v325,rfl,ho0,hb⟩;refine ⟨_,rfl,?_⟩;have n0_:=z_ (Kd.V_elder' (by (with_reducible repeat (first|apply Kd.V_alloc|apply Kd.V_drewN|apply Kd.V_drew));exact HO4.out) (Kd.R_base ho0) hb);have n1_:=z_ (Kd.V_elder' (by (with_reducible repeat (first|apply Kd.V_alloc|apply Kd.V_drewN|apply Kd.V_drew));exact HO5.out) (Kd.R_base ho0) hb);have n2_:=z_ (Kd.N_elder' (by (with_reducible repeat (first|apply Kd.N_alloc|apply Kd.N_drewN|apply Kd.N_drew));exact HO323.out) (Kd.R_base ho0) hb);have n3_:=z_ (Kd.R_lower (Kd.R_newM (M:=fun k_=>(w.heap.size<=k_)) ho0 (below_size (by repeat (first|(with_reducible first|exact HB.out|apply below_alloc|apply pw_below_drewN|apply below_drew1)|exact HB.out))) (fun k_ h_=>h_)) (below_size (by repeat (first|(with_reducible first|exact HB.out|apply below_alloc|apply pw_below_drewN|apply below_drew1)|exact HB.out))));have n4_:=z_ (below_step (by repeat (first|(with_reducible first|exact HB.out|apply below_alloc|apply pw_below_drewN|apply below_drew1)|exact HB.out)) hb);clear HO4;clear HO5;clear HO323;clear HB;have HO4:=n0_;have HO5:=n1_;have HO323:=n2_;have HO326:=n3_;have HB:=n4_;clear n0_ n1_ n2_ n3_ n4_;(try clear hb);(try clear hb2);(try clear hk);(try clear hi);(try clear ho0)))
 go_ret
 exact ⟨_,by first|rfl|(simp [errW_none,errW_some]<;>rfl)|(simp [*,errW_none,errW_some]<;>rfl),by (with_reducible repeat (first|apply Kd.R_alloc|apply Kd.R_drewN|apply Kd.R_drew));exact Kd.R_mono HO326.out (fun _ hk=>hk.1),by repeat (first|(with_reducible first|exact HB.out|apply below_alloc|apply pw_below_drewN|apply below_drew1)|exact HB.out)⟩
end Go.Proofs.YtdeneoknjeegbaaGreatDoor.P
end
section
namespace Go.Proofs.YtdeneoknjeegbaaGreatDoor.Pure
open Go.RowKit YtdeneoknjeegbaaGreatDoor.P YtdeneoknjeegbaaGreatDoorW.PrintWords YtdeneoknjeegbaaGreatDoorW.PrintLast YtdeneoknjeegbaaGreatDoorW.PrintMore
theorem number_f (n:Int):texts_Number.f n=some (num8 n):=by
 unfold texts_Number.f
 rw [numBytes_eq]
theorem leaf_f (k:Nat) (hk:9<=k) (size:Int) (l1 l2:List Int) (since:Int):arena_LeafHash.f k size l1 l2 since=some (hashB size 1 [l1,l2,num8 since]):=by
 unfold arena_LeafHash.f
 rw [number_f]
 simp only [Option.bind_some]
 rw [hash_f size 1 [l1,l2,num8 since] (by omega) (by simp) k (by simp;omega)]
 rfl
theorem rleaf_f (k:Nat) (hk:9<=k) (size:Int) (l1 l2:List Int) (since:Int) (h1:BytesOk l1) (h2:BytesOk l2):annalsref09_LeafHash.f k size l1 l2 since=some (hashB size 1 [l1,l2,num8 since]):=by
 unfold annalsref09_LeafHash.f
 rw [rnum_f since k hk]
 simp only [Option.bind_some]
 rw [rhash_f size 1 [l1,l2,num8 since] (by omega) (fun p hp=>by
  simp only [List.mem_cons,List.not_mem_nil,or_false] at hp
  rcases hp with rfl|rfl|rfl
  ·exact h1
  ·exact h2
  ·exact num8_ok _) (by simp) k (by simp;omega)]
 rfl
theorem fork_f (k:Nat) (hk:9<=k) (size d:Int) (p:List Int) (newest:Int) (l r:List Int) (hp:p.length<=140737488351232):arena_ForkHash.f k size d p newest l r=some (hashB size 2 [num8 d,firstB p d,num8 newest,l,r]):=by
 unfold arena_ForkHash.f bits_First.f
 rw [number_f,number_f,if_pos (by omega)]
 simp only [Option.bind_some]
 rw [hash_f size 2 [num8 d,firstB p d,num8 newest,l,r] (by omega) (by simp) k (by simp;omega)]
 rfl
theorem rfork_f (k:Nat) (size d:Int) (p:List Int) (newest:Int) (l r:List Int) (hk:9<=k) (hk2:2*p.length+2<=k) (hd:d<=9223372036854775807) (hp:p.length<=140737488351232) (h0:BytesOk p) (h1:BytesOk l) (h2:BytesOk r):annalsref09_ForkHash.f k size d p newest l r=some (hashB size 2 [num8 d,firstB p d,num8 newest,l,r]):=by
 unfold annalsref09_ForkHash.f
 rw [rnum_f d k hk,rnum_f newest k hk,rfirst_f p h0 d (by omega) hd k hk2]
 simp only [Option.bind_some]
 rw [rhash_f size 2 [num8 d,firstB p d,num8 newest,l,r] (by omega) (fun q hq=>by
  simp only [List.mem_cons,List.not_mem_nil,or_false] at hq
  rcases hq with rfl|rfl|rfl|rfl|rfl
  ·exact num8_ok _
  ·exact firstB_ok _ h0 _
  ·exact num8_ok _
  ·exact h1
  ·exact h2) (by simp) k (by simp;omega)]
 rfl
end Go.Proofs.YtdeneoknjeegbaaGreatDoor.Pure
end
section
namespace Go.Proofs.YtdeneoknjeegbaaGreatDoor.P
open Go.RowKit YtdeneoknjeegbaaGreatDoor.Pure YtdeneoknjeegbaaGreatDoorW.PrintWords YtdeneoknjeegbaaGreatDoorW.PrintLast YtdeneoknjeegbaaGreatDoorW.PrintMore
theorem ArenaP.start {w w1 w':World} {base p:Nat} {size room:Int} {vc vf:Value} {X X1:Nat->Prop} {cs:Cs} (h:ArenaP w1 w' base p size room vc vf X1 cs) (hX:Grew w X X1) (hB:Below w.heap.size w w1) (hb:base<=w.heap.size):ArenaP w w' base p size room vc vf X cs:=by
 obtain ⟨vc',vf',X',hM,h1,h2,h3,h4⟩:=h
 exact ⟨vc',vf',X',hM,fun k hk=>(h1 k hk).imp id (fun h=>Nat.le_trans hB.size h),hX.trans h2 hB.size,(Kept.of_below hB _).then_ h3 (fun k hk=>.inl hk),(hB.mono hb).trans h4⟩
theorem ArenaM.base_le {w:World} {base p:Nat} {size room:Int} {vc vf:Value} {X:Nat->Prop} {cs:Cs} (h:ArenaM w base p size room vc vf X cs):base<=w.heap.size/\p<w.heap.size:=by
 obtain ⟨rows,fr,hv⟩:=h.mem
 have:=hv.blk.lt
 have:=h.hb
 omega
def nodeAt (cs:Cs) (i:Int):Option Nd:=if 0<=i then (cs[i.toNat]?).join else none
theorem at_off {w:World} {p:Nat} {size room:Int} {g n c:Nat} {vf:Value} (h:ABlk w p size room (.slice (some ⟨g,0,none⟩) n c) vf) (hs:size≠0) (hn:n<=9223372036854775807) (k:Nat) (hk:k<n) (hc:w.cell? ⟨g,k*11,none⟩=some (.bool false)):
 Calls Tryz.prog 48 #[.pointer (some ⟨p,0,none⟩),.int .i64 (k:Int)] w fun e w'=>e = .returned (.pointer none)/\w=w':=by
 have HBk:=z_ h
 have HS:=z_ hs
 have hk2:decide (n<=k)=false:=decide_eq_false (by omega)
 have hk3:(k:Int)<(n:Int):=by omega
 have hk4:decide ((k:Int)<0)=false:=decide_eq_false (by omega)
 have hk5:0<=(k:Int):=by omega
 clear h hs
 go_enter Tryz.func48,Tryz.ntmps48
 go_wp2_with fail
 refine (none_calls HBk.out HS.out).mono ?_
 rintro e w' ⟨rfl,rfl⟩
 obtain ⟨c0,c1,c2,c3⟩:=HBk.out.cells
 go_wp2_with fail
 go_ret
 exact ⟨rfl,rfl⟩
def AtV (w:World) (X:Nat->Prop) (o:Option Nd) (v:Value):Prop:=match o with
 | none=>v = .pointer none
 | some n=>∃(g d:Nat) (r:List Value),v = .pointer (some ⟨g,d,none⟩)/\RowOf w X n r/\∀j u,r[j]? = some u->w.cell? ⟨g,d+j,none⟩=some u
theorem atA_calls {w:World} {base p:Nat} {size room:Int} {vc vf:Value} {X:Nat->Prop} {cs:Cs} (h:ArenaM w base p size room vc vf X cs) (i:Int):
 Calls Tryz.prog 48 #[.pointer (some ⟨p,0,none⟩),.int .i64 i] w fun e w'=>(∃v,e = .returned v/\AtV w X (nodeAt cs i) v)/\w=w':=by
 obtain ⟨rows,fr,hv⟩:=h.mem
 have hs:=h.hs
 have hl:=h.hl
 have hr:=h.hr
 have hlen:=hv.len
 obtain ⟨A,c,rfl⟩:=Kd.R_slice hv.cells
 by_cases h0:i<0
 ·refine (at_neg hv.blk (by omega) i h0).mono ?_
  rintro e w' ⟨rfl,rfl⟩
  exact ⟨⟨_,rfl,by unfold nodeAt;rw [if_neg (by omega)];rfl⟩,rfl⟩
 by_cases h1:(rows.length:Int)<=i
 ·refine (at_past hv.blk (by omega) i (by omega) h1).mono ?_
  rintro e w' ⟨rfl,rfl⟩
  exact ⟨⟨_,rfl,by unfold nodeAt;rw [if_pos (by omega),List.getElem?_eq_none (by omega)];rfl⟩,rfl⟩
 obtain ⟨k,rfl⟩ : ∃k:Nat,i=(k:Int):=⟨i.toNat,by omega⟩
 have hk:k<rows.length:=by omega
 have hro:rows[k]? = some rows[k]:=List.getElem?_eq_getElem hk
 obtain ⟨o,ho⟩ : ∃o,cs[k]? = some o:=⟨_,List.getElem?_eq_getElem (by omega)⟩
 have hok:=hv.row k o _ ho hro
 obtain ⟨_,g,c',e,hc⟩:=raw_row hv.cells k _ hro
 injection e with e1 e2 e3
 subst e1
 have hn:nodeAt cs (k:Int)=o:=by
  unfold nodeAt
  rw [if_pos (by omega),Int.toNat_natCast,ho]
  rfl
 cases o with
 | none=>
   obtain ⟨t,ht⟩:=hok
   have hc0:=hc 0 (.bool false) (by rw [ht];rfl)
   refine (at_off hv.blk (by omega) (by omega) k hk (by simpa using hc0)).mono ?_
   rintro e w' ⟨rfl,rfl⟩
   exact ⟨⟨_,rfl,by rw [hn];rfl⟩,rfl⟩
 | some n=>
   obtain ⟨t,ht,hrow⟩:=hok
   have hc0:=hc 0 (.bool true) (by rw [ht];rfl)
   refine (at_raw hv.blk (by omega) (by omega) k hk (by simpa using hc0)).mono ?_
   rintro e w' ⟨rfl,rfl⟩
   refine ⟨⟨_,rfl,?_⟩,rfl⟩
   rw [hn]
   refine ⟨g,k*11+1,t,rfl,hrow,fun j u hj=>?_⟩
   have:=hc (j+1) u (by rw [ht];simpa using hj)
   rwa [show k*11+1+j=k*11+(j+1) by omega]
theorem usedA_calls {w:World} {base p:Nat} {size room:Int} {vc vf:Value} {X:Nat->Prop} {cs:Cs} (h:ArenaM w base p size room vc vf X cs):
 Calls Tryz.prog 14 #[.pointer (some ⟨p,0,none⟩)] w fun e w'=>e = .returned (.int .i64 (usedN cs:Int))/\Drawn0 w w':=by
 obtain ⟨rows,fr,hv⟩:=h.mem
 obtain ⟨A,c,rfl⟩:=Kd.R_slice hv.cells
 obtain ⟨A',c',rfl⟩:=Kd.R_slice hv.free
 have hs:=h.hs
 have hr:=h.hr
 have hl:=h.hl
 have hlen:=hv.len
 have hok:=hv.ok.len
 have:=used_calls hv.blk (by omega) (by omega) (by omega)
 rwa [show (rows.length:Int)-(fr.length:Int)=(usedN cs:Int) by omega] at this
theorem roomA_calls {w:World} {base p:Nat} {size room:Int} {vc vf:Value} {X:Nat->Prop} {cs:Cs} (h:ArenaM w base p size room vc vf X cs):
 Calls Tryz.prog 25 #[.pointer (some ⟨p,0,none⟩)] w fun e w'=>e = .returned (.int .i64 (room-(usedN cs:Int)))/\Drawn0 w w':=by
 obtain ⟨rows,fr,hv⟩:=h.mem
 obtain ⟨A,c,rfl⟩:=Kd.R_slice hv.cells
 obtain ⟨A',c',rfl⟩:=Kd.R_slice hv.free
 have hs:=h.hs
 have hr:=h.hr
 have hl:=h.hl
 have hlen:=hv.len
 have hok:=hv.ok.len
 have:=room_calls hv.blk (by omega) (by omega) (by omega) (by omega) (by omega)
 rwa [show (rows.length:Int)-(fr.length:Int)=(usedN cs:Int) by omega] at this
def leafNd (size:Int) (l1 l2:List Int) (since:Int):Nd:=⟨true,l1,l2,since,0,[],since,0,0,hashB size 1 [l1,l2,num8 since]⟩
structure PutPost (c:Prop) (w w':World) (base p:Nat) (size room:Int) (vc vf:Value) (X:Nat->Prop) (cs:Cs) (n:Nd) (e:Ending):Prop where
 bad:c->e = .returned (.tuple #[.int .i64 0,.int .i64 1])/\ArenaP w w' base p size room vc vf X cs
 full : ¬c->(usedN cs:Int)=room->e = .returned (.tuple #[.int .i64 0,.int .i64 4])/\ArenaP w w' base p size room vc vf X cs
 ok : ¬c->(usedN cs:Int)≠room->e = .returned (.tuple #[.int .i64 (lowN cs:Int),.int .i64 0])/\ArenaP w w' base p size room vc vf X (putC cs n)
attribute [local go_sem] max2_int min2_int max_two min_two
set_option maxHeartbeats 4000000 in
set_option maxRecDepth 100000 in
theorem leaf_calls {w:World} {base p:Nat} {size room:Int} {vc vf:Value} {X:Nat->Prop} {cs:Cs} (h:ArenaM w base p size room vc vf X cs) (A1 A2:Option Addr) (c1 c2:Nat) (l1 l2:List Int) (since:Int)
 (b1:BX w X (.slice A1 l1.length c1) l1) (b2:BX w X (.slice A2 l2.length c2) l2) (hGS:GlobS w):
 Calls Tryz.prog 27 #[.pointer (some ⟨p,0,none⟩),.slice A1 l1.length c1,.slice A2 l2.length c2,.int .i64 since] w
  fun e w'=>PutPost (since<0\/65535<l1.length\/65535<l2.length) w w' base p size room vc vf X cs (leafNd size l1 l2 since) e:=by
 have hs:=h.hs
 obtain ⟨hbw,hpw⟩:=h.base_le
 have hblk : ∃vc' vf',ABlk w p size room vc' vf':=by
  obtain ⟨rows,fr,hv⟩:=h.mem
  exact ⟨vc,vf,hv.blk⟩
 obtain ⟨vc0,vf0,hblk⟩:=hblk
 obtain ⟨j,hj⟩ : ∃j:Int,j=if l1.length<l2.length then (l2.length:Int) else (l1.length:Int):=⟨_,rfl⟩
 have hj2:=hj.symm
 have hjl:(65535<j)↔(65535<l1.length\/65535<l2.length):=by
  rw [hj]
  split<;>omega
 have HBk:=z_ hblk
 have HS:=z_ (show size≠0 by omega)
 have HM:=z_ h
 have H1:=z_ b1
 have H2:=z_ b2
 have HGS:=z_ hGS
 have HBW:=z_ (And.intro hbw hpw)
 by_cases hsi:since<0
 ·have hsd:=decide_eq_true hsi
  have HC:=z_ (show since<0\/65535<l1.length\/65535<l2.length from .inl hsi)
  clear h hs hbw hpw hblk b1 b2 hGS hj hjl hsi
  go_enter Tryz.func27,Tryz.ntmps27
  go_wp2_with fail
  refine (none_calls HBk.out HS.out).mono ?_
  rintro e w' ⟨rfl,rfl⟩
  go_wp2_with fail
  go_ret2
  exact ⟨fun _=>⟨rfl,ArenaP.of_below HM.out (Below.refl _ _)⟩,fun h=>absurd HC.out h,fun h=>absurd HC.out h⟩
 have hsd:=decide_eq_false hsi
 by_cases hlong:65535<j
 ·have hj1:=decide_eq_true hlong
  have HC:=z_ (show since<0\/65535<l1.length\/65535<l2.length from .inr (hjl.1 hlong))
  clear h hs hbw hpw hblk b1 b2 hGS hj hjl hsi hlong
  go_enter Tryz.func27,Tryz.ntmps27
  go_wp2_with fail
  refine (none_calls HBk.out HS.out).mono ?_
  rintro e w' ⟨rfl,rfl⟩
  go_wp2_with fail
  go_ret2
  exact ⟨fun _=>⟨rfl,ArenaP.of_below HM.out (Below.refl _ _)⟩,fun h=>absurd HC.out h,fun h=>absurd HC.out h⟩
 have hj1:=decide_eq_false hlong
 have HC:=z_ (show ¬(since<0\/65535<l1.length\/65535<l2.length) from fun hc=>hc.elim hsi (fun h=>hlong (hjl.2 h)))
 clear h hs hbw hpw hblk b1 b2 hGS hj hjl hsi hlong
 go_enter Tryz.func27,Tryz.ntmps27
 go_wp2_with fail
 refine (none_calls HBk.out HS.out).mono ?_
 rintro e w' ⟨rfl,rfl⟩
 go_wp2_with fail
 refine (slices_Clone_byte_byte.calls A1 c1 l1 l1 _ (Kd.V_reads' H1.out).2.2 (Kd.V_reads' H1.out).2.1 (if_pos (by have:=HC.out;omega))).mono ?_
 rintro e1 w1 ⟨v,rfl,hR1,hB1⟩
 obtain ⟨B1,d1,rfl⟩:=Kd.R_slice hR1
 have HR1:=z_ hR1
 have HB1:=z_ hB1
 clear hR1 hB1
 go_wp2_with fail
 refine (slices_Clone_byte_byte.calls A2 c2 l2 l2 _ (Kd.V_reads' (Kd.V_below H2.out HB1.out)).2.2 (Kd.V_reads' H2.out).2.1 (if_pos (by have:=HC.out;omega))).mono ?_
 rintro e2 w2 ⟨v,rfl,hR2,hB2⟩
 obtain ⟨B2,d2,rfl⟩:=Kd.R_slice hR2
 have HR2:=z_ hR2
 have HB2:=z_ hB2
 clear hR2 hB2
 have HBk2:=z_ ((HBk.out.below HB1.out).below HB2.out)
 obtain ⟨k0,k1,k2,k3⟩:=HBk2.out.cells
 have hp2:p<w2.heap.size:=HBk2.out.lt
 go_wp2_with fail
 obtain ⟨W3,hW3⟩ : ∃W3,W3=w2.alloc (.cells #[.bool true,.slice B1 l1.length d1,.slice B2 l2.length d2,.int .i64 since,.int .i64 0,.slice none 0 0,.int .i64 since,.int .i64 0,.int .i64 0,.slice none 0 0] 59):=⟨_,rfl⟩
 rw [<-hW3]
 have hB3:Below w2.heap.size w2 W3:=by rw [hW3];exact below_alloc (Below.refl _ _) _
 have hB03:Below w.heap.size w W3:=(HB1.out.trans (HB2.out.mono HB1.out.size)).trans (hB3.mono (by have:=HB1.out.size;have:=HB2.out.size;omega))
 have hN3:W3.heap[w2.heap.size]? = some (.cells #[.bool true,.slice B1 l1.length d1,.slice B2 l2.length d2,.int .i64 since,.int .i64 0,.slice none 0 0,.int .i64 since,.int .i64 0,.int .i64 0,.slice none 0 0] 59 (0,0)):=by rw [hW3];exact heap_alloc_new w2 _
 have HB3:=z_ hB3
 have HB03:=z_ hB03
 have HN3:=z_ hN3
 clear hB3 hB03 hN3 hW3 k0 k1 k2 k3 hp2
 refine (arena_LeafHash.calls 9 size (fun k=>X k/\k<w.heap.size) A1 c1 l1 (fun k=>X k/\k<w.heap.size) A2 c2 l2 since (hashB size 1 [l1,l2,num8 since]) W3 (Kd.V_below (Kd.V_bound H1.out) HB03.out) (Kd.V_below (Kd.V_bound H2.out) HB03.out) (GlobS.of HGS.out HB03.out) (leaf_f 9 (by decide) size l1 l2 since)).mono ?_
 obtain ⟨lh,hlh⟩ : ∃lh,lh=hashB size 1 [l1,l2,num8 since]:=⟨_,rfl⟩
 rw [<-hlh]
 have HLH:=z_ hlh
 clear hlh
 rintro e3 w4 ⟨v,rfl,hV4,hB4⟩
 obtain ⟨B9,d9,rfl⟩:=Kd.V_slice hV4
 have HV4:=z_ hV4
 have HB4:=z_ hB4
 have HN4:=z_ ((hB4.block w2.heap.size (blk_lt HN3.out)).trans HN3.out)
 clear hV4 hB4
 obtain ⟨b,hb⟩ : ∃b,b=w2.heap.size:=⟨_,rfl⟩
 rw [<-hb] at HN4
 rw [<-hb]
 have HBE:=z_ hb
 clear hb
 have m0:=blk_cell HN4.out 0
 have m1:=blk_cell HN4.out 1
 have m2:=blk_cell HN4.out 2
 have m3:=blk_cell HN4.out 3
 have m4:=blk_cell HN4.out 4
 have m5:=blk_cell HN4.out 5
 have m6:=blk_cell HN4.out 6
 have m7:=blk_cell HN4.out 7
 have m8:=blk_cell HN4.out 8
 have m9:=blk_cell HN4.out 9
 have f9:=blk_frozen HN4.out 9
 go_wp2_with fail
 clear m0 m1 m2 m3 m4 m5 m6 m7 m8 m9 f9
 obtain ⟨W5,hW5⟩ : ∃W5,W5=w4.setCell ⟨b,9,none⟩ (.slice B9 lh.length d9):=⟨_,rfl⟩
 rw [<-hW5]
 have s1:=HB1.out.size
 have s2:=HB2.out.size
 have s3:=HB3.out.size
 have s4:=HB4.out.size
 have hb3:b<W3.heap.size:=by rw [HBE.out];exact blk_lt HN3.out
 have hbe:=HBE.out
 have hB04:Below w.heap.size w w4:=HB03.out.trans (HB4.out.mono (by omega))
 have hB05:Below w.heap.size w W5:=by rw [hW5];exact Below.setCell hB04 (by show w.heap.size<=b;omega) _
 have hsz:W5.heap.size=w4.heap.size:=by rw [hW5];simp [World.setCell]
 have hfar : ∀k,k≠b->W5.heap[k]? = w4.heap[k]? := fun k hk=>by rw [hW5];exact Below.heap_setCell w4 ⟨b,9,none⟩ _ k hk
 obtain ⟨X4,hX4⟩ : ∃X4:Nat->Prop,X4=fun k=>X k\/(w.heap.size<=k/\k<w4.heap.size/\k≠b):=⟨_,rfl⟩
 have hsepX : ∀k,X k->k<w.heap.size/\¬OwnS p vc vf k:=by
  obtain ⟨rows,fr,hv⟩:=HM.out.mem
  exact hv.sep
 have hownlt : ∀k,OwnS p vc vf k->k<w.heap.size:=by
  obtain ⟨rows,fr,hv⟩:=HM.out.mem
  exact hv.own_lt
 have hM5:ArenaM W5 base p size room vc vf X4 cs:=HM.out.step (by omega) (fun k hk _=>hB05.block k hk) (fun k hx=>by rw [hX4];exact .inl hx) (fun k hx=>by
  rw [hX4] at hx
  rcases hx with hx|hx
  ·exact ⟨by have:=(hsepX k hx).1;omega,(hsepX k hx).2⟩
  ·exact ⟨by omega,fun ho=>by have:=hownlt k ho;omega⟩)
 have hb1:BX W5 X4 (.slice B1 l1.length d1) l1:=by
  have h1:=Kd.R_V (base':=0) (Kd.R_bound HR1.out)
  refine Kd.V_mono (Kd.V_step h1 (fun k hk hl=>?_)) (fun k hk=>by rw [hX4];exact .inr ⟨hk.2.1,by omega,by omega⟩)
  rw [hfar k (by omega),HB4.out.block k (by omega),HB3.out.block k (by omega),HB2.out.block k hl]
 have hb2:BX W5 X4 (.slice B2 l2.length d2) l2:=by
  have h1:=Kd.R_V (base':=0) (Kd.R_bound HR2.out)
  refine Kd.V_mono (Kd.V_step h1 (fun k hk hl=>?_)) (fun k hk=>by rw [hX4];exact .inr ⟨by omega,by omega,by omega⟩)
  rw [hfar k (by omega),HB4.out.block k (by omega),HB3.out.block k (by omega)]
 have hb9:BX W5 X4 (.slice B9 lh.length d9) lh:=by
  have h1:=Kd.V_bound HV4.out
  refine Kd.V_mono (Kd.V_step h1 (fun k hk hl=>?_)) (fun k hk=>?_)
  ·refine hfar k ?_
   rcases hk.1 with (hk1|hk1)|hk1<;>omega
  ·rw [hX4]
   rcases hk.1 with (hk1|hk1)|hk1
   ·exact .inl hk1.1
   ·exact .inl hk1.1
   ·exact .inr ⟨by omega,hk.2,by omega⟩
 have HGR:=z_ (show Grew w X X4 from fun k hk=>by
  rw [hX4] at hk
  exact hk.imp id (fun h=>h.1))
 have HB05:=z_ hB05
 have hput:=put_calls hM5 ⟨true,l1,l2,since,0,[],since,0,0,lh⟩ B1 B2 none B9 d1 d2 0 d9 hb1 hb2 (Kd.V_nil _ _ _ _ _) hb9
 clear hM5 hb1 hb2 hb9 hX4 hsepX hownlt hfar hsz hB05 hB04 hbe hb3 s1 s2 s3 s4 hW5
 refine hput.mono ?_
 rintro e5 w5 hpost
 have HPO:=z_ hpost
 clear hpost hput
 by_cases hfull:(usedN cs:Int)=room
 ·have hp:=HPO.out
  rw [if_pos hfull] at hp
  obtain ⟨rfl,hp⟩:=hp
  have HP:=z_ hp
  have HFU:=z_ hfull
  clear hp HPO hfull
  go_wp2_with fail
  go_ret2
  exact ⟨fun h=>absurd h HC.out,fun _ _=>⟨rfl,HP.out.start HGR.out HB05.out HBW.out.1⟩,fun _ h=>absurd HFU.out h⟩
 ·have hp:=HPO.out
  rw [if_neg hfull] at hp
  obtain ⟨rfl,hp⟩:=hp
  have HP:=z_ hp
  have HFU:=z_ hfull
  clear hp HPO hfull
  go_wp2_with fail
  go_ret2
  refine ⟨fun h=>absurd h HC.out,fun _ h=>absurd h HFU.out,fun _ _=>⟨rfl,?_⟩⟩
  unfold leafNd
  rw [<-HLH.out]
  exact HP.out.start HGR.out HB05.out HBW.out.1
end Go.Proofs.YtdeneoknjeegbaaGreatDoor.P
end
