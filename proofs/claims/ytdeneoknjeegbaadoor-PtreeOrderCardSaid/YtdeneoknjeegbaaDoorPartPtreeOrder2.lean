/- Lemmas of this claim, part 2. -/
import Derived.Test.YtdeneoknjeegbaaDoorProg
import Derived.Below
import Derived.Deep.Draws
import Derived.Deep.AppendLies
import Derived.Maps.AppendAt
import Derived.OwnWalk
import Derived.Laws.BytesArg
import Derived.Laws.MakeOwn
import Derived.Laws.OwnMore
import Derived.Deep.OwnRows
import Derived.Tactics
import Derived.Lib.ConvBytes
import Derived.Laws.Slices
import Derived.WalkKit
import Derived.KernelRfl
import Derived.RowKit3
import Derived.Deep.LoopGhost
import Derived.Deep.QuietTactic
import Derived.BigQuiet
import Derived.WideLaws
import Derived.Deep.DeepCutAuto
import Derived.Deep.CutBlock
import Derived.Deep.RegionHeld3
import Derived.Laws.Rows
import Derived.Lib.AppendStr
import Derived.ArgAppend
import Derived.Laws.IdiomCopy
import Derived.OrdersHeld
import Derived.Laws.BitsLemmas
import Derived.RowKit
import Derived.Test.YtdeneoknjeegbaaDoorPartPtreeOrder0
import Derived.Test.YtdeneoknjeegbaaDoorPartPtreeOrder1
import Derived.Lib.TrailingZeros
import Derived.Shelf.Small.Bits
import Derived.Shelf.Slices.Turned
import Derived.Shelf.Slices.Reverse
import Derived.Shelf.Slices.Cells
import Derived.Shelf.Bytes.SlSearch0
import Derived.Shelf.Bytes.SlEqualAll
import Derived.Shelf.Bytes.Small
import Derived.Shelf.Spec.TrailingZeros
import Derived.WalkSpells
import Derived.WalkLawsBesides
import Derived.IntWalk
import Derived.StillTailTactics
import Derived.Laws.CopyOwn
import Derived.Outline
set_option linter.unusedVariables false
set_option linter.unusedSimpArgs false
section
namespace Go.Proofs.YtdeneoknjeegbaaDoor.P
open Go.RowKit YtdeneoknjeegbaaDoorW.PrintWords YtdeneoknjeegbaaDoorW.PrintLast YtdeneoknjeegbaaDoorW.PrintMore
attribute [local go_sem] max2_int min2_int max_two min_two max_three min_three max_four min_four
def errW:Option Int->Value
 | none=>.nilIface
 | some c=>.iface 0 (.int .i64 c)
theorem errW_none:errW none = .nilIface:=rfl
theorem errW_some (c:Int):errW (some c) = .iface 0 (.int .i64 c):=rfl
theorem info5:(Tryd.prog.info? 5).map (fun i=>(i.zero,i.size,i.bytes))=some (some (.int .u8 0),1,1):=by kernel_rfl
theorem info59:(Tryd.prog.info? 59).map (fun i=>(i.zero,i.size,i.bytes))=some (some (.agg #[(.slice none 0 0),(.slice none 0 0),(.int .i64 0)]),3,56):=by kernel_rfl
def rd_L1 (xs:List (List Int)) (i:Int):(List Int):=xs.getD i.toNat ([]:List Int)
theorem at_L1 {w:World} {A:Option Addr} {n:Nat} {xs:List (List Int)} (h:Kd.C (Kd.slice 5 (Kd.int .u8)) w A n xs) (i:Int) (h0:0<=i) (h1:i<n) : ∃ad A0 c0,A=some ad/\w.cell? (ad.add i.toNat)=some (.slice A0 (rd_L1 xs i).length c0)/\(rd_L1 xs i).length<=c0/\(Kd.int .u8).C w A0 (rd_L1 xs i).length (rd_L1 xs i):=by
 obtain ⟨ad,c,e,_,hK,hc0⟩:=Kd.C_get h ([]:List Int) i h0 h1
 have hc : ∀j u,c[j]? = some u->w.cell? (ad.add (i.toNat*1+j))=some u:=hc0
 obtain ⟨A0,c0,rfl,l0,g0⟩:=hK
 exact ⟨ad,A0,c0,e,by have hq:=hc 0 _ rfl;rwa [Nat.mul_one,Nat.add_zero] at hq,l0,g0⟩
structure S39 where
 f0:Bool
 f1:(List Int)
 f2:(List Int)
 f3:Int
 f4:Int
 f5:(List Int)
 f6:Int
 f7:Int
 f8:Int
 f9:(List Int)
def z39:S39:=⟨false,([]:List Int),([]:List Int),(0:Int),(0:Int),([]:List Int),(0:Int),(0:Int),(0:Int),([]:List Int)⟩
def k39:Kd S39:=Kd.iso (Kd.pair Kd.bool (Kd.pair (Kd.slice 5 (Kd.int .u8)) (Kd.pair (Kd.slice 5 (Kd.int .u8)) (Kd.pair (Kd.int .i64) (Kd.pair (Kd.int .i64) (Kd.pair (Kd.slice 5 (Kd.int .u8)) (Kd.pair (Kd.int .i64) (Kd.pair (Kd.int .i64) (Kd.pair (Kd.int .i64) (Kd.slice 5 (Kd.int .u8))))))))))) (fun x:S39=>(x.f0,x.f1,x.f2,x.f3,x.f4,x.f5,x.f6,x.f7,x.f8,x.f9))
structure S59 where
 f0:(List Int)
 f1:(List Int)
 f2:Int
def z59:S59:=⟨([]:List Int),([]:List Int),(0:Int)⟩
def k59:Kd S59:=Kd.iso (Kd.pair (Kd.slice 5 (Kd.int .u8)) (Kd.pair (Kd.slice 5 (Kd.int .u8)) (Kd.int .i64))) (fun x:S59=>(x.f0,x.f1,x.f2))
theorem k59_open {w:World} {x:S59} {cs:List Value} (h:k59.K w x cs) : ∃A0 c0 A1 c1,cs = [.slice A0 x.f0.length c0,.slice A1 x.f1.length c1,.int .i64 x.f2]/\x.f0.length<=c0/\(Kd.int .u8).C w A0 x.f0.length x.f0/\x.f1.length<=c1/\(Kd.int .u8).C w A1 x.f1.length x.f1:=by
 obtain ⟨_,_,rfl,⟨A0,c0,rfl,l0,g0⟩,⟨_,_,rfl,⟨A1,c1,rfl,l1,g1⟩,rfl⟩⟩:=h
 exact ⟨A0,c0,A1,c1,rfl,l0,g0,l1,g1⟩
theorem k59_mk (w:World) (x:S59) {A0:Option Addr} {c0:Nat} (l0:x.f0.length<=c0) (g0:(Kd.int .u8).C w A0 x.f0.length x.f0) {A1:Option Addr} {c1:Nat} (l1:x.f1.length<=c1) (g1:(Kd.int .u8).C w A1 x.f1.length x.f1):k59.K w x [.slice A0 x.f0.length c0,.slice A1 x.f1.length c1,.int .i64 x.f2]:=⟨[.slice A0 x.f0.length c0],[.slice A1 x.f1.length c1,.int .i64 x.f2],rfl,⟨A0,c0,rfl,l0,g0⟩,⟨[.slice A1 x.f1.length c1],[.int .i64 x.f2],rfl,⟨A1,c1,rfl,l1,g1⟩,rfl⟩⟩
theorem k59_openF {W:World} {ok:Nat->Prop} {x:S59} {cs:List Value} (h:Kd.FK k59 W ok x cs) : ∃A0 c0 A1 c1,cs = [.slice A0 x.f0.length c0,.slice A1 x.f1.length c1,.int .i64 x.f2]/\x.f0.length<=c0/\Kd.F (Kd.int .u8) W ok A0 x.f0.length x.f0/\x.f1.length<=c1/\Kd.F (Kd.int .u8) W ok A1 x.f1.length x.f1:=by
 obtain ⟨A0,c0,A1,c1,rfl,l0,_,l1,_⟩:=k59_open (Kd.FK_now h)
 exact ⟨A0,c0,A1,c1,rfl,l0,(fun W' hW=>by obtain ⟨A0_,c0_,A1_,c1_,he,l0_,g0_,l1_,g1_⟩:=k59_open (h W' hW);injection (Option.some.inj (show some (Value.slice A0 x.f0.length c0)=some (Value.slice A0_ x.f0.length c0_) from congrArg (fun l=>l[0]?) he)) with ha_ _ _;rw [ha_];exact g0_),l1,(fun W' hW=>by obtain ⟨A0_,c0_,A1_,c1_,he,l0_,g0_,l1_,g1_⟩:=k59_open (h W' hW);injection (Option.some.inj (show some (Value.slice A1 x.f1.length c1)=some (Value.slice A1_ x.f1.length c1_) from congrArg (fun l=>l[1]?) he)) with ha_ _ _;rw [ha_];exact g1_)⟩
theorem k59_mkF (W:World) (ok:Nat->Prop) (x:S59) {A0:Option Addr} {c0:Nat} (l0:x.f0.length<=c0) (g0:Kd.F (Kd.int .u8) W ok A0 x.f0.length x.f0) {A1:Option Addr} {c1:Nat} (l1:x.f1.length<=c1) (g1:Kd.F (Kd.int .u8) W ok A1 x.f1.length x.f1):Kd.FK k59 W ok x [.slice A0 x.f0.length c0,.slice A1 x.f1.length c1,.int .i64 x.f2]:=fun W2 hW=>k59_mk W2 x l0 (g0 W2 hW) l1 (g1 W2 hW)
def rd_T59 (xs:List S59) (i:Int):S59:=xs.getD i.toNat z59
theorem at_T59 {w:World} {A:Option Addr} {n:Nat} {xs:List S59} (h:Kd.C k59 w A n xs) (i:Int) (h0:0<=i) (h1:i<n) : ∃ad A0 c0 A1 c1,A=some ad/\w.cell? (ad.add (i.toNat*3))=some (.slice A0 (rd_T59 xs i).f0.length c0)/\w.cell? ⟨(ad.add (i.toNat*3)).block,(ad.add (i.toNat*3)).off+1,none⟩=some (.slice A1 (rd_T59 xs i).f1.length c1)/\w.cell? ⟨(ad.add (i.toNat*3)).block,(ad.add (i.toNat*3)).off+2,none⟩=some (.int .i64 (rd_T59 xs i).f2)/\(rd_T59 xs i).f0.length<=c0/\(Kd.int .u8).C w A0 (rd_T59 xs i).f0.length (rd_T59 xs i).f0/\(rd_T59 xs i).f1.length<=c1/\(Kd.int .u8).C w A1 (rd_T59 xs i).f1.length (rd_T59 xs i).f1:=by
 obtain ⟨ad,c,e,_,hK,hc0⟩:=Kd.C_get h z59 i h0 h1
 have hc : ∀j u,c[j]? = some u->w.cell? (ad.add (i.toNat*3+j))=some u:=hc0
 obtain ⟨A0,c0,A1,c1,rfl,l0,g0,l1,g1⟩:=k59_open hK
 exact ⟨ad,A0,c0,A1,c1,e,hc 0 _ rfl,by rw [<-add_field _ _ 1 (by omega)];exact hc 1 _ rfl,by rw [<-add_field _ _ 2 (by omega)];exact hc 2 _ rfl,l0,g0,l1,g1⟩
structure S51 where
 f0:(List Int)
 f1:(List Int)
 f2:Int
def z51:S51:=⟨([]:List Int),([]:List Int),(0:Int)⟩
def k51:Kd S51:=Kd.iso (Kd.pair (Kd.slice 5 (Kd.int .u8)) (Kd.pair (Kd.slice 5 (Kd.int .u8)) (Kd.int .i64))) (fun x:S51=>(x.f0,x.f1,x.f2))
theorem k51_open {w:World} {x:S51} {cs:List Value} (h:k51.K w x cs) : ∃A0 c0 A1 c1,cs = [.slice A0 x.f0.length c0,.slice A1 x.f1.length c1,.int .i64 x.f2]/\x.f0.length<=c0/\(Kd.int .u8).C w A0 x.f0.length x.f0/\x.f1.length<=c1/\(Kd.int .u8).C w A1 x.f1.length x.f1:=by
 obtain ⟨_,_,rfl,⟨A0,c0,rfl,l0,g0⟩,⟨_,_,rfl,⟨A1,c1,rfl,l1,g1⟩,rfl⟩⟩:=h
 exact ⟨A0,c0,A1,c1,rfl,l0,g0,l1,g1⟩
theorem k51_mk (w:World) (x:S51) {A0:Option Addr} {c0:Nat} (l0:x.f0.length<=c0) (g0:(Kd.int .u8).C w A0 x.f0.length x.f0) {A1:Option Addr} {c1:Nat} (l1:x.f1.length<=c1) (g1:(Kd.int .u8).C w A1 x.f1.length x.f1):k51.K w x [.slice A0 x.f0.length c0,.slice A1 x.f1.length c1,.int .i64 x.f2]:=⟨[.slice A0 x.f0.length c0],[.slice A1 x.f1.length c1,.int .i64 x.f2],rfl,⟨A0,c0,rfl,l0,g0⟩,⟨[.slice A1 x.f1.length c1],[.int .i64 x.f2],rfl,⟨A1,c1,rfl,l1,g1⟩,rfl⟩⟩
theorem k51_openF {W:World} {ok:Nat->Prop} {x:S51} {cs:List Value} (h:Kd.FK k51 W ok x cs) : ∃A0 c0 A1 c1,cs = [.slice A0 x.f0.length c0,.slice A1 x.f1.length c1,.int .i64 x.f2]/\x.f0.length<=c0/\Kd.F (Kd.int .u8) W ok A0 x.f0.length x.f0/\x.f1.length<=c1/\Kd.F (Kd.int .u8) W ok A1 x.f1.length x.f1:=by
 obtain ⟨A0,c0,A1,c1,rfl,l0,_,l1,_⟩:=k51_open (Kd.FK_now h)
 exact ⟨A0,c0,A1,c1,rfl,l0,(fun W' hW=>by obtain ⟨A0_,c0_,A1_,c1_,he,l0_,g0_,l1_,g1_⟩:=k51_open (h W' hW);injection (Option.some.inj (show some (Value.slice A0 x.f0.length c0)=some (Value.slice A0_ x.f0.length c0_) from congrArg (fun l=>l[0]?) he)) with ha_ _ _;rw [ha_];exact g0_),l1,(fun W' hW=>by obtain ⟨A0_,c0_,A1_,c1_,he,l0_,g0_,l1_,g1_⟩:=k51_open (h W' hW);injection (Option.some.inj (show some (Value.slice A1 x.f1.length c1)=some (Value.slice A1_ x.f1.length c1_) from congrArg (fun l=>l[1]?) he)) with ha_ _ _;rw [ha_];exact g1_)⟩
theorem k51_mkF (W:World) (ok:Nat->Prop) (x:S51) {A0:Option Addr} {c0:Nat} (l0:x.f0.length<=c0) (g0:Kd.F (Kd.int .u8) W ok A0 x.f0.length x.f0) {A1:Option Addr} {c1:Nat} (l1:x.f1.length<=c1) (g1:Kd.F (Kd.int .u8) W ok A1 x.f1.length x.f1):Kd.FK k51 W ok x [.slice A0 x.f0.length c0,.slice A1 x.f1.length c1,.int .i64 x.f2]:=fun W2 hW=>k51_mk W2 x l0 (g0 W2 hW) l1 (g1 W2 hW)
def rd_T51 (xs:List S51) (i:Int):S51:=xs.getD i.toNat z51
theorem at_T51 {w:World} {A:Option Addr} {n:Nat} {xs:List S51} (h:Kd.C k51 w A n xs) (i:Int) (h0:0<=i) (h1:i<n) : ∃ad A0 c0 A1 c1,A=some ad/\w.cell? (ad.add (i.toNat*3))=some (.slice A0 (rd_T51 xs i).f0.length c0)/\w.cell? ⟨(ad.add (i.toNat*3)).block,(ad.add (i.toNat*3)).off+1,none⟩=some (.slice A1 (rd_T51 xs i).f1.length c1)/\w.cell? ⟨(ad.add (i.toNat*3)).block,(ad.add (i.toNat*3)).off+2,none⟩=some (.int .i64 (rd_T51 xs i).f2)/\(rd_T51 xs i).f0.length<=c0/\(Kd.int .u8).C w A0 (rd_T51 xs i).f0.length (rd_T51 xs i).f0/\(rd_T51 xs i).f1.length<=c1/\(Kd.int .u8).C w A1 (rd_T51 xs i).f1.length (rd_T51 xs i).f1:=by
 obtain ⟨ad,c,e,_,hK,hc0⟩:=Kd.C_get h z51 i h0 h1
 have hc : ∀j u,c[j]? = some u->w.cell? (ad.add (i.toNat*3+j))=some u:=hc0
 obtain ⟨A0,c0,A1,c1,rfl,l0,g0,l1,g1⟩:=k51_open hK
 exact ⟨ad,A0,c0,A1,c1,e,hc 0 _ rfl,by rw [<-add_field _ _ 1 (by omega)];exact hc 1 _ rfl,by rw [<-add_field _ _ 2 (by omega)];exact hc 2 _ rfl,l0,g0,l1,g1⟩
end Go.Proofs.YtdeneoknjeegbaaDoor.P
end
section
namespace Go.Proofs.YtdeneoknjeegbaaDoor.P
open Go.RowKit YtdeneoknjeegbaaDoorW.PrintWords YtdeneoknjeegbaaDoorW.PrintLast YtdeneoknjeegbaaDoorW.PrintMore
def shaFirst:List Int:=[1779033703,3144134277,1013904242,2773480762,1359893119,2600822924,528734635,1541459225]
def shaAdded:List Int:=[1116352408,1899447441,3049323471,3921009573,961987163,1508970993,2453635748,2870763221,3624381080,310598401,607225278,1426881987,1925078388,2162078206,2614888103,3248222580,3835390401,4022224774,264347078,604807628,770255983,1249150122,1555081692,1996064986,2554220882,2821834349,2952996808,3210313671,3336571891,3584528711,113926993,338241895,666307205,773529912,1294757372,1396182291,1695183700,1986661051,2177026350,2456956037,2730485921,2820302411,3259730800,3345764771,3516065817,3600352804,4094571909,275423344,430227734,506948616,659060556,883997877,958139571,1322822218,1537002063,1747873779,1955562222,2024104815,2227730452,2361852424,2428436474,2756734187,3204031479,3329325298]
def GlobS (w:World):Prop:=(∀j,j<8->w.cell? ⟨0,j,none⟩=some (.int .u32 (shaFirst.getD j 0)))/\(∀j,j<64->w.cell? ⟨1,j,none⟩=some (.int .u32 (shaAdded.getD j 0)))
theorem GlobS.of {w0 w:World} (h:GlobS w0) (hb:Below w0.heap.size w0 w):GlobS w:=
 ⟨fun j hj=>(hb.cell (World.block_lt_of_cell? w0 _ (h.1 j hj))).trans (h.1 j hj),fun j hj=>(hb.cell (World.block_lt_of_cell? w0 _ (h.2 j hj))).trans (h.2 j hj)⟩
end Go.Proofs.YtdeneoknjeegbaaDoor.P
end
section
namespace Go.Proofs
open Go.Shelf
def Tryd.lays126_ren:Go.Shelf.Ren:=⟨fun|126=>106|n=>n,fun|5=>5|3=>3|9=>9|n=>n,fun|n=>n⟩
def Tryd.lays131_ren:Go.Shelf.Ren:=⟨fun|131=>100|126=>106|n=>n,fun|5=>5|3=>3|9=>9|n=>n,fun|n=>n⟩
theorem Tryd.lays131:Go.Proofs.Lays.n131 Tryd.prog Tryd.lays131_ren:={
 mixed:=by kernel_rfl
 f126:=Tryd.func106.trans (congrArg some (by kernel_rfl))
 f131:=Tryd.func100.trans (congrArg some (by kernel_rfl))
 t3:=Tryd.underlying3
 a3:=Tryd.isAgg3
 z3:=Tryd.sizeOf3
 v3:=Tryd.zeroValue3
 t5:=Tryd.underlying5
 a5:=Tryd.isAgg5
 z5:=Tryd.sizeOf5
 v5:=Tryd.zeroValue5
 t9:=Tryd.underlying9
 a9:=Tryd.isAgg9
 z9:=Tryd.sizeOf9
 v9:=Tryd.zeroValue9 }
theorem Tryd.bits_LeadingZeros8 (x:Int) (w:World) (h0:0<=x) (h1:x<=255):
 Calls Tryd.prog 100 #[.int .u8 x] w fun e w'=>e = .returned (.int .i64 (8-(Lib.bitLen x.toNat:Int)))/\w'=w:=Any.bits_LeadingZeros8 Tryd.lays131 x w h0 h1
end Go.Proofs
end
section
namespace Go.Proofs.YtdeneoknjeegbaaDoor.P
open Go.RowKit YtdeneoknjeegbaaDoorW.PrintWords YtdeneoknjeegbaaDoorW.PrintLast YtdeneoknjeegbaaDoorW.PrintMore
def bits_LeadingZeros8.f (a0:Int):Option Int:=if 0<=a0 then (if a0<=255 then some (8-(Lib.bitLen a0.toNat:Int)) else none) else none
theorem bits_LeadingZeros8.calls (a0:Int) (r:Int) (w:World) (h:bits_LeadingZeros8.f a0=some r):
 Calls Tryd.prog 100 #[.int .u8 a0] w fun e w'=>e = .returned (.int .i64 r)/\Drawn0 w w':=by
 unfold bits_LeadingZeros8.f at h
 split at h
 case isFalse=>cases h
 split at h
 case isFalse=>cases h
 case isTrue h0 h1=>
  obtain rfl:=Option.some.inj h
  refine (Tryd.bits_LeadingZeros8 a0 w h0 h1).mono ?_
  rintro e w' ⟨rfl,rfl⟩
  exact ⟨rfl,Drawn0.refl _⟩
end Go.Proofs.YtdeneoknjeegbaaDoor.P
end
section
namespace Go.Proofs.YtdeneoknjeegbaaDoor.P
open Go.RowKit YtdeneoknjeegbaaDoorW.PrintWords YtdeneoknjeegbaaDoorW.PrintLast YtdeneoknjeegbaaDoorW.PrintMore
attribute [local go_sem] max2_int min2_int max_two min_two max_three min_three max_four min_four
def bits_RotateLeft32.f (a0:Int) (a1:Int):Option (Int):=if 0<=(Go.bits .and .u64 (IntKind.u64.wrap (a1)) 31) then (if 0<=(IntKind.u64.wrap (32-(Go.bits .and .u64 (IntKind.u64.wrap (a1)) 31))) then (some (Go.bits .or .u32 (shl .u32 a0 (Go.bits .and .u64 (IntKind.u64.wrap (a1)) 31)) (shr .u32 a0 (IntKind.u64.wrap (32-(Go.bits .and .u64 (IntKind.u64.wrap (a1)) 31)))))) else (none)) else (none)
set_option maxHeartbeats 8000000 in
set_option maxRecDepth 100000 in
theorem bits_RotateLeft32.calls (a0:Int) (a1:Int) (r:Int) (w:World) (h:bits_RotateLeft32.f a0 a1=some r):
 Calls Tryd.prog 118 #[.int .u32 a0,.int .i64 a1] w fun e w'=>e = .returned (.int .u32 r)/\Drawn0 w w':=by
 have H:(if 0<=(Go.bits .and .u64 (IntKind.u64.wrap (a1)) 31) then (if 0<=(IntKind.u64.wrap (32-(Go.bits .and .u64 (IntKind.u64.wrap (a1)) 31))) then (some (Go.bits .or .u32 (shl .u32 a0 (Go.bits .and .u64 (IntKind.u64.wrap (a1)) 31)) (shr .u32 a0 (IntKind.u64.wrap (32-(Go.bits .and .u64 (IntKind.u64.wrap (a1)) 31)))))) else (none)) else (none))=some r:=h
 clear h
 obtain ⟨ji3,hji3⟩ : ∃j_:Int,(Go.bits .and .u64 (IntKind.u64.wrap (a1)) 31)=j_:=⟨_,rfl⟩
 replace H:(if 0<=(ji3) then (if 0<=(IntKind.u64.wrap (32-(ji3))) then (some (Go.bits .or .u32 (shl .u32 a0 (ji3)) (shr .u32 a0 (IntKind.u64.wrap (32-(ji3)))))) else (none)) else (none))=some r:=by first|(rw [hji3] at H;exact H)|(simp only [hji3] at H ⊢;exact H)
 by_cases c4:0<=(ji3)
 ·rw [if_pos c4] at H
  have c4b0:=eq_true c4
  have c4b1:decide (0<=(ji3))=true:=decide_eq_true c4
  clear c4
  obtain ⟨ji5,hji5⟩ : ∃j_:Int,(shl .u32 a0 (ji3))=j_:=⟨_,rfl⟩
  replace H:(if 0<=(IntKind.u64.wrap (32-(ji3))) then (some (Go.bits .or .u32 (ji5) (shr .u32 a0 (IntKind.u64.wrap (32-(ji3)))))) else (none))=some r:=by first|(rw [hji5] at H;exact H)|(simp only [hji5] at H ⊢;exact H)
  have hji5_:(IntKind.u32.wrap (a0*2^min (ji3).toNat 32))=ji5:=hji5
  have hji5z:(ji3)<=32->(IntKind.u32.wrap (a0*2^(ji3).toNat))=ji5:=shl_small hji5
  obtain ⟨ji6,hji6⟩ : ∃j_:Int,(IntKind.u64.wrap (32-(ji3)))=j_:=⟨_,rfl⟩
  replace H:(if 0<=(ji6) then (some (Go.bits .or .u32 (ji5) (shr .u32 a0 (ji6)))) else (none))=some r:=by first|(rw [hji6] at H;exact H)|(simp only [hji6] at H ⊢;exact H)
  by_cases c7:0<=(ji6)
  ·rw [if_pos c7] at H
   have c7b0:=eq_true c7
   have c7b1:decide (0<=(ji6))=true:=decide_eq_true c7
   clear c7
   obtain ⟨ji8,hji8⟩ : ∃j_:Int,(shr .u32 a0 (ji6))=j_:=⟨_,rfl⟩
   replace H:(some (Go.bits .or .u32 (ji5) (ji8)))=some r:=by first|(rw [hji8] at H;exact H)|(simp only [hji8] at H ⊢;exact H)
   have hji8_:(a0/2^min (ji6).toNat 32)=ji8:=hji8
   have hji8z:(ji6)<=32->(a0/2^(ji6).toNat)=ji8:=shr_small hji8
   obtain rfl:=Option.some.inj H
   go_enter Tryd.func118,Tryd.ntmps118
   go_wp2
   go_ret
   exact ⟨by first|rfl|(simp;done)|(simp only [<-hji3,<-hji5,<-hji6,<-hji8]<;>(first|rfl|simp))|(simp [*];done),by repeat (first|exact Drawn0.refl _|apply Drawn0.step)⟩
  ·rw [if_neg c7] at H
   exact absurd H (by simp)
 ·rw [if_neg c4] at H
  exact absurd H (by simp)
def sha_gamma.f (a0:Int) (a1:Int) (a2:Int) (a3:Int):Option (Int):=(bits_RotateLeft32.f a0 (wrap64 (32-a1))).bind fun t115=>((bits_RotateLeft32.f a0 (wrap64 (32-a2))).bind fun t116=>(if 0<=a3 then (some (Go.bits .xor .u32 (Go.bits .xor .u32 t115 t116) (shr .u32 a0 a3))) else (none)))
set_option maxHeartbeats 8000000 in
set_option maxRecDepth 100000 in
theorem sha_gamma.calls (a0:Int) (a1:Int) (a2:Int) (a3:Int) (r:Int) (w:World) (h:sha_gamma.f a0 a1 a2 a3=some r):
 Calls Tryd.prog 117 #[.int .u32 a0,.int .i64 a1,.int .i64 a2,.int .i64 a3] w fun e w'=>e = .returned (.int .u32 r)/\Drawn0 w w':=by
 have H:((bits_RotateLeft32.f a0 (wrap64 (32-a1))).bind fun t115=>((bits_RotateLeft32.f a0 (wrap64 (32-a2))).bind fun t116=>(if 0<=a3 then (some (Go.bits .xor .u32 (Go.bits .xor .u32 t115 t116) (shr .u32 a0 a3))) else (none))))=some r:=h
 clear h
 replace H:=Option.bind_eq_some_iff.mp H
 obtain ⟨t115,A50,H⟩:=H
 replace H:((bits_RotateLeft32.f a0 (wrap64 (32-a2))).bind fun t116=>(if 0<=a3 then (some (Go.bits .xor .u32 (Go.bits .xor .u32 t115 t116) (shr .u32 a0 a3))) else (none)))=some r:=H
 have A5:=z_ A50
 clear A50
 replace H:=Option.bind_eq_some_iff.mp H
 obtain ⟨t116,A60,H⟩:=H
 replace H:(if 0<=a3 then (some (Go.bits .xor .u32 (Go.bits .xor .u32 t115 t116) (shr .u32 a0 a3))) else (none))=some r:=H
 have A6:=z_ A60
 clear A60
 by_cases c7:0<=a3
 ·rw [if_pos c7] at H
  have c7b0:=eq_true c7
  have c7b1:decide (0<=a3)=true:=decide_eq_true c7
  clear c7
  obtain ⟨ji8,hji8⟩ : ∃j_:Int,(shr .u32 a0 a3)=j_:=⟨_,rfl⟩
  replace H:(some (Go.bits .xor .u32 (Go.bits .xor .u32 t115 t116) (ji8)))=some r:=by first|(rw [hji8] at H;exact H)|(simp only [hji8] at H ⊢;exact H)
  (try rw [hji8] at A5)
  (try rw [hji8] at A6)
  have hji8_:(a0/2^min a3.toNat 32)=ji8:=hji8
  have hji8z:a3<=32->(a0/2^a3.toNat)=ji8:=shr_small hji8
  obtain rfl:=Option.some.inj H
  go_enter Tryd.func117,Tryd.ntmps117
  go_wp2_with (first|(go_at_call 118;(with_reducible refine (bits_RotateLeft32.calls a0 (wrap64 (32-a1)) t115 _ A5.out).mono ?_);rintro e w' ⟨rfl,⟨nd,rfl⟩⟩;(try first|exact ⟨rfl,_,World.drewN_drewN _ _ _⟩|exact ⟨rfl,_,Eq.trans (World.drewN_drewN _ _ _) (congrArg (World.drewN _) (Nat.add_assoc _ _ _))⟩))|(go_at_call 118;(with_reducible refine (bits_RotateLeft32.calls a0 (wrap64 (32-a2)) t116 _ A6.out).mono ?_);rintro e w' ⟨rfl,⟨nd,rfl⟩⟩;(try first|exact ⟨rfl,_,World.drewN_drewN _ _ _⟩|exact ⟨rfl,_,Eq.trans (World.drewN_drewN _ _ _) (congrArg (World.drewN _) (Nat.add_assoc _ _ _))⟩)))
  repeat (go_quiet (first|(go_at_call 118;(with_reducible refine (bits_RotateLeft32.calls a0 (wrap64 (32-a1)) t115 _ A5.out).mono ?_);rintro e w' ⟨rfl,⟨nd,rfl⟩⟩;(try first|exact ⟨rfl,_,World.drewN_drewN _ _ _⟩|exact ⟨rfl,_,Eq.trans (World.drewN_drewN _ _ _) (congrArg (World.drewN _) (Nat.add_assoc _ _ _))⟩))|(go_at_call 118;(with_reducible refine (bits_RotateLeft32.calls a0 (wrap64 (32-a2)) t116 _ A6.out).mono ?_);rintro e w' ⟨rfl,⟨nd,rfl⟩⟩;(try first|exact ⟨rfl,_,World.drewN_drewN _ _ _⟩|exact ⟨rfl,_,Eq.trans (World.drewN_drewN _ _ _) (congrArg (World.drewN _) (Nat.add_assoc _ _ _))⟩)));try go_wp2_with (first|(go_at_call 118;(with_reducible refine (bits_RotateLeft32.calls a0 (wrap64 (32-a1)) t115 _ A5.out).mono ?_);rintro e w' ⟨rfl,⟨nd,rfl⟩⟩;(try first|exact ⟨rfl,_,World.drewN_drewN _ _ _⟩|exact ⟨rfl,_,Eq.trans (World.drewN_drewN _ _ _) (congrArg (World.drewN _) (Nat.add_assoc _ _ _))⟩))|(go_at_call 118;(with_reducible refine (bits_RotateLeft32.calls a0 (wrap64 (32-a2)) t116 _ A6.out).mono ?_);rintro e w' ⟨rfl,⟨nd,rfl⟩⟩;(try first|exact ⟨rfl,_,World.drewN_drewN _ _ _⟩|exact ⟨rfl,_,Eq.trans (World.drewN_drewN _ _ _) (congrArg (World.drewN _) (Nat.add_assoc _ _ _))⟩))))
  go_ret
  exact ⟨by first|rfl|(simp;done)|(simp only [<-hji8]<;>(first|rfl|simp))|(simp [*];done),by repeat (first|exact Drawn0.refl _|apply Drawn0.step)⟩
 ·rw [if_neg c7] at H
  exact absurd H (by simp)
def sha_sigma.f (a0:Int) (a1:Int) (a2:Int) (a3:Int):Option (Int):=(bits_RotateLeft32.f a0 (wrap64 (32-a1))).bind fun t117=>((bits_RotateLeft32.f a0 (wrap64 (32-a2))).bind fun t118=>((bits_RotateLeft32.f a0 (wrap64 (32-a3))).bind fun t119=>(some (Go.bits .xor .u32 (Go.bits .xor .u32 t117 t118) t119))))
set_option maxHeartbeats 8000000 in
set_option maxRecDepth 100000 in
theorem sha_sigma.calls (a0:Int) (a1:Int) (a2:Int) (a3:Int) (r:Int) (w:World) (h:sha_sigma.f a0 a1 a2 a3=some r):
 Calls Tryd.prog 116 #[.int .u32 a0,.int .i64 a1,.int .i64 a2,.int .i64 a3] w fun e w'=>e = .returned (.int .u32 r)/\Drawn0 w w':=by
 have H:((bits_RotateLeft32.f a0 (wrap64 (32-a1))).bind fun t117=>((bits_RotateLeft32.f a0 (wrap64 (32-a2))).bind fun t118=>((bits_RotateLeft32.f a0 (wrap64 (32-a3))).bind fun t119=>(some (Go.bits .xor .u32 (Go.bits .xor .u32 t117 t118) t119)))))=some r:=h
 clear h
 replace H:=Option.bind_eq_some_iff.mp H
 obtain ⟨t117,A50,H⟩:=H
 replace H:((bits_RotateLeft32.f a0 (wrap64 (32-a2))).bind fun t118=>((bits_RotateLeft32.f a0 (wrap64 (32-a3))).bind fun t119=>(some (Go.bits .xor .u32 (Go.bits .xor .u32 t117 t118) t119))))=some r:=H
 have A5:=z_ A50
 clear A50
 replace H:=Option.bind_eq_some_iff.mp H
 obtain ⟨t118,A60,H⟩:=H
 replace H:((bits_RotateLeft32.f a0 (wrap64 (32-a3))).bind fun t119=>(some (Go.bits .xor .u32 (Go.bits .xor .u32 t117 t118) t119)))=some r:=H
 have A6:=z_ A60
 clear A60
 replace H:=Option.bind_eq_some_iff.mp H
 obtain ⟨t119,A70,H⟩:=H
 replace H:(some (Go.bits .xor .u32 (Go.bits .xor .u32 t117 t118) t119))=some r:=H
 have A7:=z_ A70
 clear A70
 obtain rfl:=Option.some.inj H
 go_enter Tryd.func116,Tryd.ntmps116
 go_wp2_with (first|((with_reducible refine gate_callee (f:=118) rfl ?_);refine goesL_ (some 12) rfl rfl Tryd.func118 (by kernel_rfl) rfl #[.int .u32 a0,.int .i64 (wrap64 (32-a1))] rfl (by (try simp only [List.map_toArray,List.map_cons,List.map_nil]);first|done|rfl|(simp only [List.length_drop,List.length_take];rfl)) ?_;(with_reducible refine (bits_RotateLeft32.calls a0 (wrap64 (32-a1)) t117 _ A5.out).mono ?_);rintro e w' ⟨rfl,⟨nd,rfl⟩⟩;refine ⟨_,rfl,?_⟩)|((with_reducible refine gate_callee (f:=118) rfl ?_);refine goesL_ (some 16) rfl rfl Tryd.func118 (by kernel_rfl) rfl #[.int .u32 a0,.int .i64 (wrap64 (32-a2))] rfl (by (try simp only [List.map_toArray,List.map_cons,List.map_nil]);first|done|rfl|(simp only [List.length_drop,List.length_take];rfl)) ?_;(with_reducible refine (bits_RotateLeft32.calls a0 (wrap64 (32-a2)) t118 _ A6.out).mono ?_);rintro e w' ⟨rfl,⟨nd,rfl⟩⟩;refine ⟨_,rfl,?_⟩)|((with_reducible refine gate_callee (f:=118) rfl ?_);refine goesL_ (some 21) rfl rfl Tryd.func118 (by kernel_rfl) rfl #[.int .u32 a0,.int .i64 (wrap64 (32-a3))] rfl (by (try simp only [List.map_toArray,List.map_cons,List.map_nil]);first|done|rfl|(simp only [List.length_drop,List.length_take];rfl)) ?_;(with_reducible refine (bits_RotateLeft32.calls a0 (wrap64 (32-a3)) t119 _ A7.out).mono ?_);rintro e w' ⟨rfl,⟨nd,rfl⟩⟩;refine ⟨_,rfl,?_⟩))
 go_ret
 exact ⟨by first|rfl|(simp;done)|(simp [*];done),by repeat (first|exact Drawn0.refl _|apply Drawn0.step)⟩
end Go.Proofs.YtdeneoknjeegbaaDoor.P
end
section
namespace Go.Proofs.YtdeneoknjeegbaaDoor.P
open Go.RowKit YtdeneoknjeegbaaDoorW.PrintWords YtdeneoknjeegbaaDoorW.PrintLast YtdeneoknjeegbaaDoorW.PrintMore
def words (xs:List Int):Array Value:=(xs.map (Value.int .u32)).toArray
theorem words_get (xs:List Int) (i:Nat) (h:i<xs.length):(words xs)[i]? = some (.int .u32 (xs.getD i 0)):=by
 unfold words
 rw [List.getElem?_toArray,List.getElem?_map,List.getElem?_eq_getElem h,List.getD_eq_getElem?_getD,List.getElem?_eq_getElem h]
 rfl
theorem words_set (xs:List Int) (i:Nat) (x:Int):(words xs).setIfInBounds i (.int .u32 x)=words (xs.set i x):=by
 unfold words
 rw [List.map_set]
 simp
def IsWords (w:World) (g t:Nat) (xs:List Int):Prop:=w.heap[g]? = some (.cells (words xs) t (0,0))
theorem IsWords.cell {w:World} {g t:Nat} {xs:List Int} (h:IsWords w g t xs) (i:Nat) (hi:i<xs.length):w.cell? ⟨g,i,none⟩=some (.int .u32 (xs.getD i 0)):=
 (blk_cell h i).trans (words_get xs i hi)
theorem IsWords.frozen {w:World} {g t:Nat} {xs:List Int} (h:IsWords w g t xs) (i:Nat):w.frozen? ⟨g,i,none⟩=false:=blk_frozen h i
theorem IsWords.set {w:World} {g t:Nat} {xs:List Int} (h:IsWords w g t xs) (i:Nat) (x:Int):IsWords (w.setCell ⟨g,i,none⟩ (.int .u32 x)) g t (xs.set i x):=by
 unfold IsWords
 rw [<-words_set]
 exact blk_set h i _
theorem IsWords.drewN {w:World} {g t:Nat} {xs:List Int} (h:IsWords w g t xs) (n:Nat):IsWords (w.drewN n) g t xs:=h
def zeros64:List Int:=List.replicate 64 0
def sched2At (xs:List Int) (i:Nat):Int:=((((sha_gamma.f (xs.getD (i-2) 0) 17 19 10).getD 0+xs.getD (i-7) 0)%4294967296+(sha_gamma.f (xs.getD (i-15) 0) 7 18 3).getD 0)%4294967296+xs.getD (i-16) 0)%4294967296
def sched2 (xs:List Int):Nat->List Int
 | 0=>xs
 | k+1=>(sched2 xs k).set (k+16) (sched2At (sched2 xs k) (k+16))
def sched1 (bs:List Int):Nat->List Int
 | 0=>zeros64
 | k+1=>(sched1 bs k).set (k/4) (Go.bits .or .u32 (((sched1 bs k).getD (k/4) 0)*256%4294967296) (rd bs (k:Int)%4294967296))
def schedule (bs:List Int):List Int:=sched2 (sched1 bs 64) 48
theorem sched1_length (bs:List Int) (k:Nat):(sched1 bs k).length=64:=by
 induction k with
 | zero=>simp [sched1,zeros64]
 | succ k ih=>simp [sched1,ih]
theorem sched2_length (xs:List Int) (k:Nat) (h:xs.length=64):(sched2 xs k).length=64:=by
 induction k with
 | zero=>exact h
 | succ k ih=>simp [sched2,ih]
theorem cell_set_ne {w:World} {g i j n:Nat} {u:Value} (h:i≠j) (v:Value) (hc:w.cell? ⟨g,i,none⟩=some u):((w.drewN n).setCell ⟨g,j,none⟩ v).cell? ⟨g,i,none⟩=some u:=by
 refine (World.cell?_setCell_other _ _ _ _ (fun e=>?_)).trans ?_
 ·simp only [Addr.mk.injEq] at e
  omega
 ·exact hc
theorem bits_u64_nonneg (op:BinOp) (x y:Int):0<=Go.bits op .u64 x y:=by
 unfold Go.bits
 rw [IntKind.wrap_u64]
 omega
theorem rot_some (x n:Int) : ∃r,bits_RotateLeft32.f x n=some r:=by
 unfold bits_RotateLeft32.f
 rw [if_pos (bits_u64_nonneg _ _ _),if_pos (by rw [IntKind.wrap_u64];omega)]
 exact ⟨_,rfl⟩
theorem gamma_some (x a b c:Int) (hc:0<=c):sha_gamma.f x a b c=some ((sha_gamma.f x a b c).getD 0):=by
 unfold sha_gamma.f
 obtain ⟨r1,h1⟩:=rot_some x (wrap64 (32-a))
 obtain ⟨r2,h2⟩:=rot_some x (wrap64 (32-b))
 rw [h1,h2]
 simp only [Option.bind_some]
 rw [if_pos hc]
 rfl
theorem sigma_some (x a b c:Int):sha_sigma.f x a b c=some ((sha_sigma.f x a b c).getD 0):=by
 unfold sha_sigma.f
 obtain ⟨r1,h1⟩:=rot_some x (wrap64 (32-a))
 obtain ⟨r2,h2⟩:=rot_some x (wrap64 (32-b))
 obtain ⟨r3,h3⟩:=rot_some x (wrap64 (32-c))
 rw [h1,h2,h3]
 rfl
set_option maxHeartbeats 1000000 in
set_option maxRecDepth 100000 in
theorem scheduleOf_calls (A0:Option Addr) (c0:Nat) (bs:List Int) (w:World) (hr:Kd.C (Kd.int .u8) w A0 bs.length bs) (hc:bs.length<=c0) (hl:64<=bs.length) (hb:bs.length<9223372036854775807):
 Calls Tryd.prog 115 #[.slice A0 bs.length c0] w fun e w'=>e = .returned (.pointer (some ⟨w.heap.size,0,none⟩))/\IsWords w' w.heap.size 161 (schedule bs)/\Below w.heap.size w w':=by
 have HR:=z_ hr
 have hc64:64<=c0:=by omega
 clear hr hc
 go_enter Tryd.func115,Tryd.ntmps115
 go_wp2_with fail
 obtain ⟨g,hg⟩ : ∃g,g=w.heap.size:=⟨_,rfl⟩
 rw [<-hg]
 have HG:=z_ hg
 clear hg
 go_loopw [10] (fun v10 wr=>∃k:Nat,k<=64/\v10 = .int .i64 k/\Aside0 (IsWords wr g 161 (sched1 bs k))/\Aside0 (Below w.heap.size w wr)) (fun v10 _=>64-(intOf v10).toNat)
 case atStart=>exact ⟨0,by omega,rfl,⟨by rw [HG.out];exact heap_alloc_new w _⟩,⟨below_alloc (Below.refl _ _) _⟩⟩
 case round=>
  obtain ⟨k,hk,rfl,HI,HB⟩:=hrel
  by_cases hlt:k<64
  ·have hd:decide ((k:Int)<64)=true:=by simp;omega
   obtain ⟨ad,rfl,hx0⟩:=Kd.at_int HR.out (k:Int) (by omega) (by omega)
   have hx:=(HB.out.cell (World.block_lt_of_cell? w _ hx0)).trans hx0
   clear hx0
   rw [Int.toNat_natCast] at hx
   have hk4:k/4<64:=by omega
   have hc:=HI.out.cell (k/4) (by rw [sched1_length];omega)
   have hf:=HI.out.frozen (k/4)
   go_wp2_with fail
   go_roundw
   case rel=>
    refine ⟨k+1,by omega,by go_num,⟨?_⟩,⟨HB.out.setCell (by show w.heap.size<=g;rw [HG.out];omega) _⟩⟩
    have:=HI.out.set (k/4) (Go.bits .or .u32 (((sched1 bs k).getD (k/4) 0)*256%4294967296) (rd bs (k:Int)%4294967296))
    rw [List.getD_eq_getElem?_getD] at this
    simpa only [sched1,List.getD_eq_getElem?_getD] using this
   case measure=>simp [intOf];omega
  ·have hd:decide ((k:Int)<64)=false:=by simp;omega
   have hk64:k=64:=by omega
   rw [hk64] at HI
   clear hk64 hk hlt
   go_wp2_with fail
   obtain ⟨xs0,hxs0⟩ : ∃xs,xs=sched1 bs 64:=⟨_,rfl⟩
   have hl0:xs0.length=64:=by rw [hxs0];exact sched1_length _ _
   rw [<-hxs0] at HI
   have HL0:=z_ hl0
   have HX0:=z_ hxs0
   clear hl0 hxs0 hd
   go_loopw [6] (fun v6 wr=>∃k:Nat,k<=48/\v6 = .int .i64 (16+k:Nat)/\Aside0 (IsWords wr g 161 (sched2 xs0 k))/\Aside0 (Below w.heap.size w wr)) (fun v6 _=>64-(intOf v6).toNat)
   case atStart=>exact ⟨0,by omega,rfl,HI,HB⟩
   case round=>
    obtain ⟨k,hk,rfl,HI,HB⟩:=hrel
    by_cases hlt:k<48
    ·obtain ⟨j,hj⟩ : ∃j,j=16+k:=⟨_,rfl⟩
     rw [<-hj]
     obtain ⟨xs,hxs⟩ : ∃xs,xs=sched2 xs0 k:=⟨_,rfl⟩
     rw [<-hxs] at HI
     have hxl:xs.length=64:=by rw [hxs];exact sched2_length xs0 k HL0.out
     have HXS:=z_ hxs
     have HJ:=z_ hj
     have j0:16<=j:=by omega
     have j1:j<64:=by omega
     obtain ⟨x2,hx2⟩ : ∃x,x=xs.getD (j-2) 0:=⟨_,rfl⟩
     obtain ⟨x7,hx7⟩ : ∃x,x=xs.getD (j-7) 0:=⟨_,rfl⟩
     obtain ⟨x15,hx15⟩ : ∃x,x=xs.getD (j-15) 0:=⟨_,rfl⟩
     obtain ⟨x16,hx16⟩ : ∃x,x=xs.getD (j-16) 0:=⟨_,rfl⟩
     obtain ⟨j2,hj2⟩ : ∃x,x=j-2:=⟨_,rfl⟩
     have c2:=HI.out.cell (j-2) (by omega)
     rw [<-hj2] at c2 hx2
     have HJ2:=z_ hj2
     clear hj2
     obtain ⟨j7,hj7⟩ : ∃x,x=j-7:=⟨_,rfl⟩
     have c7:=HI.out.cell (j-7) (by omega)
     rw [<-hj7] at c7 hx7
     have HJ7:=z_ hj7
     clear hj7
     obtain ⟨j15,hj15⟩ : ∃x,x=j-15:=⟨_,rfl⟩
     have c15:=HI.out.cell (j-15) (by omega)
     rw [<-hj15] at c15 hx15
     have HJ15:=z_ hj15
     clear hj15
     obtain ⟨j16,hj16⟩ : ∃x,x=j-16:=⟨_,rfl⟩
     have c16:=HI.out.cell (j-16) (by omega)
     rw [<-hj16] at c16 hx16
     have HJ16:=z_ hj16
     clear hj16
     rw [<-hx2] at c2
     rw [<-hx7] at c7
     rw [<-hx15] at c15
     rw [<-hx16] at c16
     have hf:=HI.out.frozen j
     have hcj:=HI.out.cell j (by omega)
     have HX:=z_ (And.intro hx2 (And.intro hx7 (And.intro hx15 hx16)))
     have G1:=z_ (gamma_some x2 17 19 10 (by omega))
     have G2:=z_ (gamma_some x15 7 18 3 (by omega))
     obtain ⟨y1,hy1⟩ : ∃y,y=(sha_gamma.f x2 17 19 10).getD 0:=⟨_,rfl⟩
     obtain ⟨y2,hy2⟩ : ∃y,y=(sha_gamma.f x15 7 18 3).getD 0:=⟨_,rfl⟩
     rw [<-hy1] at G1
     rw [<-hy2] at G2
     have HY:=z_ (And.intro hy1 hy2)
     have HXL:=z_ hxl
     have HK:=z_ hlt
     clear hj hxs hx2 hx7 hx15 hx16 hy1 hy2 hxl hlt
     have hd:decide ((j:Int)<64)=true:=by simp;omega
     have pj:0<=(j:Int):=by omega
     have qj:(j:Int)<64:=by omega
     go_wp2_with fail
     have w2:IntKind.i64.wrap (j2:Int)=(j2:Int):=by have:=HJ2.out;exact IntWalk.i64_in _ ⟨by omega,by omega⟩
     have q2:(j2:Int)<64:=by have:=HJ2.out;omega
     have p2:0<=(j2:Int):=by omega
     have e2:(j:Int)-2=(j2:Int):=by have:=HJ2.out;omega
     have w7:IntKind.i64.wrap (j7:Int)=(j7:Int):=by have:=HJ7.out;exact IntWalk.i64_in _ ⟨by omega,by omega⟩
     have q7:(j7:Int)<64:=by have:=HJ7.out;omega
     have p7:0<=(j7:Int):=by omega
     have e7:(j:Int)-7=(j7:Int):=by have:=HJ7.out;omega
     have w15:IntKind.i64.wrap (j15:Int)=(j15:Int):=by have:=HJ15.out;exact IntWalk.i64_in _ ⟨by omega,by omega⟩
     have q15:(j15:Int)<64:=by have:=HJ15.out;omega
     have p15:0<=(j15:Int):=by omega
     have e15:(j:Int)-15=(j15:Int):=by have:=HJ15.out;omega
     have w16:IntKind.i64.wrap (j16:Int)=(j16:Int):=by have:=HJ16.out;exact IntWalk.i64_in _ ⟨by omega,by omega⟩
     have q16:(j16:Int)<64:=by have:=HJ16.out;omega
     have p16:0<=(j16:Int):=by omega
     have e16:(j:Int)-16=(j16:Int):=by have:=HJ16.out;omega
     go_region_held3 (fun w'=>w'.cell? ⟨g,j2,none⟩=some (.int .u32 x2)/\w'.cell? ⟨g,j7,none⟩=some (.int .u32 x7)/\w'.cell? ⟨g,j15,none⟩=some (.int .u32 x15)/\w'.cell? ⟨g,j16,none⟩=some (.int .u32 x16)) (first|go_keep|exact ⟨cell_set_ne (by have:=HJ2.out;omega) _ c2,cell_set_ne (by have:=HJ7.out;omega) _ c7,cell_set_ne (by have:=HJ15.out;omega) _ c15,cell_set_ne (by have:=HJ16.out;omega) _ c16⟩) (first|(go_at_call 117;((with_reducible refine (sha_gamma.calls x2 17 19 10 y1 _ G1.out).mono ?_);rintro e w' ⟨rfl,⟨m1,rfl⟩⟩))|(go_at_call 117;((with_reducible refine (sha_gamma.calls x15 7 18 3 y2 _ G2.out).mono ?_);rintro e w' ⟨rfl,⟨m2,rfl⟩⟩)))
     go_wp2_with fail
     go_roundw
     case rel=>
      have hX:=HX.out
      have hY:=HY.out
      have hv:(((y1+x7)%4294967296+y2)%4294967296+x16)%4294967296=sched2At (sched2 xs0 k) (k+16):=by
       unfold sched2At
       rw [<-HXS.out,show k+16=j from by rw [HJ.out];omega,<-HJ2.out,<-HJ7.out,<-HJ15.out,<-HJ16.out,<-hX.1,<-hX.2.1,<-hX.2.2.1,<-hX.2.2.2,<-hY.1,<-hY.2]
      refine ⟨k+1,by have:=HK.out;omega,by rw [HJ.out];go_num,⟨?_⟩,⟨(pw_below_drewN HB.out _).setCell (by show w.heap.size<=g;rw [HG.out];omega) _⟩⟩
      rw [hv]
      have h1:=(HI.out.drewN (1+m1+m2)).set j (sched2At (sched2 xs0 k) (k+16))
      have h2:sched2 xs0 (k+1)=xs.set j (sched2At (sched2 xs0 k) (k+16)):=by
       simp only [sched2]
       rw [<-HXS.out,show k+16=j from by rw [HJ.out];omega]
      rw [h2]
      exact h1
     case measure=>simp [intOf];have:=HJ.out;omega
    ·have hd:decide (((16+k:Nat):Int)<64)=false:=by simp;omega
     obtain rfl:k=48:=by omega
     go_wp2_with fail
     go_ret
     rw [<-HG.out]
     refine ⟨rfl,?_,by rw [HG.out];exact HB.out⟩
     unfold schedule
     rw [<-HX0.out]
     exact HI.out
structure Sums where
 a:Int
 b:Int
 c:Int
 d:Int
 e:Int
 f:Int
 g:Int
 h:Int
def Sums.list (s:Sums):List Int:=[s.a,s.b,s.c,s.d,s.e,s.f,s.g,s.h]
def Sums.round (s:Sums) (add wi:Int):Sums:=
 let t:=(s.h+(sha_sigma.f s.e 6 11 25).getD 0+Go.bits .xor .u32 (Go.bits .and .u32 s.e (Go.bits .xor .u32 s.f s.g)) s.g+add+wi)%4294967296
 let u:=((sha_sigma.f s.a 2 13 22).getD 0+Go.bits .or .u32 (Go.bits .and .u32 s.a (Go.bits .or .u32 s.b s.c)) (Go.bits .and .u32 s.b s.c))%4294967296
 ⟨(t+u)%4294967296,s.a,s.b,s.c,(s.d+t)%4294967296,s.e,s.f,s.g⟩
def Sums.rounds (ws:List Int) (s:Sums):Nat->Sums
 | 0=>s
 | k+1=>(Sums.rounds ws s k).round (shaAdded.getD k 0) (ws.getD k 0)
def addW (xs ys:List Int):Nat->List Int
 | 0=>xs
 | k+1=>(addW xs ys k).set k (((addW xs ys k).getD k 0+ys.getD k 0)%4294967296)
theorem addW_length (xs ys:List Int) (k:Nat):(addW xs ys k).length=xs.length:=by
 induction k with
 | zero=>rfl
 | succ k ih=>simp [addW,ih]
def Sums.take (s:Sums) (bs:List Int):List Int:=addW (Sums.rounds (schedule bs) s 64).list s.list 8
set_option maxRecDepth 100000 in
theorem sums_index (s:Sums) (k:Nat) (hk:k<8) (w:World):(Instr.index 149 (.agg #[.int .u32 s.a,.int .u32 s.b,.int .u32 s.c,.int .u32 s.d,.int .u32 s.e,.int .u32 s.f,.int .u32 s.g,.int .u32 s.h]) (.int .i64 (k:Int))).run Tryd.prog w = .ok (.int .u32 (s.list.getD k 0)) w:=by
 rcases (show k=0\/k=1\/k=2\/k=3\/k=4\/k=5\/k=6\/k=7 by omega) with rfl|rfl|rfl|rfl|rfl|rfl|rfl|rfl
 all_goals kernel_rfl
theorem IsSums.cells {w:World} {g t:Nat} {s:Sums} (h:IsWords w g t s.list):
 w.cell? ⟨g,0,none⟩=some (.int .u32 s.a)/\w.cell? ⟨g,1,none⟩=some (.int .u32 s.b)/\w.cell? ⟨g,2,none⟩=some (.int .u32 s.c)/\w.cell? ⟨g,3,none⟩=some (.int .u32 s.d)/\
 w.cell? ⟨g,4,none⟩=some (.int .u32 s.e)/\w.cell? ⟨g,5,none⟩=some (.int .u32 s.f)/\w.cell? ⟨g,6,none⟩=some (.int .u32 s.g)/\w.cell? ⟨g,7,none⟩=some (.int .u32 s.h):=
 ⟨blk_cell h 0,blk_cell h 1,blk_cell h 2,blk_cell h 3,blk_cell h 4,blk_cell h 5,blk_cell h 6,blk_cell h 7⟩
def put8 (w:World) (g:Nat) (v0 v1 v2 v3 v4 v5 v6 v7:Int):World:=
 ((((((((w.setCell ⟨g,0,none⟩ (.int .u32 v0)).setCell ⟨g,1,none⟩ (.int .u32 v1)).setCell ⟨g,2,none⟩ (.int .u32 v2)).setCell ⟨g,3,none⟩ (.int .u32 v3)).setCell ⟨g,4,none⟩ (.int .u32 v4)).setCell ⟨g,5,none⟩ (.int .u32 v5)).setCell ⟨g,6,none⟩ (.int .u32 v6)).setCell ⟨g,7,none⟩ (.int .u32 v7))
theorem put8_words {w:World} {g t:Nat} {s:Sums} (h:IsWords w g t s.list) (v0 v1 v2 v3 v4 v5 v6 v7:Int):IsWords (put8 w g v0 v1 v2 v3 v4 v5 v6 v7) g t [v0,v1,v2,v3,v4,v5,v6,v7]:=
 (((((((h.set 0 v0).set 1 v1).set 2 v2).set 3 v3).set 4 v4).set 5 v5).set 6 v6).set 7 v7
theorem put8_far {w:World} {g g2 t:Nat} {xs:List Int} (h:IsWords w g2 t xs) (hne:g2≠g) (v0 v1 v2 v3 v4 v5 v6 v7:Int):IsWords (put8 w g v0 v1 v2 v3 v4 v5 v6 v7) g2 t xs:=by
 exact blk_far (blk_far (blk_far (blk_far (blk_far (blk_far (blk_far (blk_far (h) hne _) hne _) hne _) hne _) hne _) hne _) hne _) hne _
theorem put8_below {w0 w:World} {g:Nat} (h:Below w0.heap.size w0 w) (hg:w0.heap.size<=g) (v0 v1 v2 v3 v4 v5 v6 v7:Int):Below w0.heap.size w0 (put8 w g v0 v1 v2 v3 v4 v5 v6 v7):=by
 exact Below.setCell (Below.setCell (Below.setCell (Below.setCell (Below.setCell (Below.setCell (Below.setCell (Below.setCell (h) hg _) hg _) hg _) hg _) hg _) hg _) hg _) hg _
theorem put8_keep {w0 w:World} {g:Nat} (h:KeepBut w0 w g none) (v0 v1 v2 v3 v4 v5 v6 v7:Int):KeepBut w0 (put8 w g v0 v1 v2 v3 v4 v5 v6 v7) g none:=by
 exact KeepBut.set_ (KeepBut.set_ (KeepBut.set_ (KeepBut.set_ (KeepBut.set_ (KeepBut.set_ (KeepBut.set_ (KeepBut.set_ (h) _ _) _ _) _ _) _ _) _ _) _ _) _ _) _ _
theorem quiet_drawn2 {P:Program} {f:FuncId} {args:Array Value} {w:World} {q n:Nat} {v:Value}
 (h:Calls P f args (w.drewN (q+n)) fun e w'=>e = .returned v/\Drawn0 (w.drewN (q+n)) w'):Calls P f args (w.drewN (q+n)) fun e w''=>e = .returned v/\∃m,w''=w.drewN (q+m):=
 h.mono fun _ _ ⟨he,hd⟩=>by
  obtain ⟨m,hm⟩:=hd.out
  exact ⟨he,n+m,by rw [hm,World.drewN_drewN,Nat.add_assoc]⟩
theorem still_tail_at {P:Program} {id:Nat} {Q:Exit->Act->World->Prop} {a:Act} {w:World} {l:List Oper} (n:Nat) (hm:P.follows .mixedOrders=true) (hB:Region.lexTailB .any l.toArray n=true)
 (h : ∀W:World,W=w.drew->wpStill P l.toArray W (fun a'=>wpList P l.toArray Q (l.drop n) a' W) (l.take n) a):(Code.region id l.toArray true).wp P Q a w:=
 wp_region_still_tail n hm hB (h _ rfl)
set_option maxHeartbeats 4000000 in
set_option maxRecDepth 100000 in
theorem take_calls (g:Nat) (s:Sums) (A0:Option Addr) (cap:Nat) (bs:List Int) (w0 w:World) (hI:IsWords w g 149 s.list) (hge:w0.heap.size<=g) (hr:Kd.C (Kd.int .u8) w A0 bs.length bs) (hc:bs.length<=cap) (hl:64<=bs.length) (hb:bs.length<9223372036854775807)
 (hB:Below w0.heap.size w0 w) (hGS:GlobS w0):
 Calls Tryd.prog 108 #[.pointer (some ⟨g,0,none⟩),.slice A0 bs.length cap] w fun e w'=>e = .returned (.tuple #[])/\IsWords w' g 149 (s.take bs)/\Below w0.heap.size w0 w'/\KeepBut w w' g none:=by
 have HLT:=z_ (blk_lt hI)
 have HR:=z_ hr
 have HI:=z_ hI
 have HB:=z_ hB
 have HGS:=z_ hGS
 clear hr hI hB hGS
 go_enter Tryd.func108,Tryd.ntmps108
 go_wp2_with fail
 refine (scheduleOf_calls A0 cap bs w HR.out hc hl hb).mono ?_
 rintro e1 w1 ⟨rfl,hW1,hB1⟩
 have hI1:IsWords w1 g 149 s.list:=blk_below HI.out hB1
 obtain ⟨c0,c1,c2,c3,c4,c5,c6,c7⟩:=IsSums.cells hI1
 have HI1:=z_ hI1
 have HB1:=z_ hB1
 have HW1:=z_ hW1
 clear hW1 hI1 hB1
 go_wp2_with fail
 obtain ⟨gw,hgw⟩ : ∃x,x=w.heap.size:=⟨_,rfl⟩
 obtain ⟨gs,hgs⟩ : ∃x,x=w1.heap.size:=⟨_,rfl⟩
 rw [<-hgw,<-hgs]
 have HGW:=z_ hgw
 have HGSz:=z_ hgs
 obtain ⟨ws,hws⟩ : ∃x,x=schedule bs:=⟨_,rfl⟩
 have HWS:=z_ hws
 clear hgw hgs hws c0 c1 c2 c3 c4 c5 c6 c7
 go_loopw [18] (fun v18 wr=>∃k:Nat,k<=64/\v18 = .int .i64 k/\Aside0 (IsWords wr g 149 (Sums.rounds ws s k).list)/\Aside0 (IsWords wr gw 161 ws)/\Aside0 (IsWords wr gs 149 s.list)/\Aside0 (Below w0.heap.size w0 wr)/\Aside0 (KeepBut w wr g none)) (fun v18 _=>64-(intOf v18).toNat)
 case atStart=>
  refine ⟨0,by omega,rfl,⟨blk_alloc HI1.out _⟩,⟨?_⟩,⟨?_⟩,⟨below_alloc (below_then HB.out HB.out.size HB1.out) _⟩,⟨?_⟩⟩
  ·rw [HWS.out,HGW.out]
   exact blk_alloc HW1.out _
  ·rw [HGSz.out]
   exact heap_alloc_new w1 _
  ·exact ⟨by have:=HB1.out.size;simp;omega,fun i hi _ _=>(Below.heap_alloc _ _ _ (by have:=HB1.out.size;omega)).trans (HB1.out.block i hi)⟩
 case round=>
  obtain ⟨k,hk,rfl,HI,HW,HS,HB,HK⟩:=hrel
  by_cases hlt:k<64
  ·have hd:decide ((k:Int)<64)=true:=by simp;omega
   obtain ⟨S,hS⟩ : ∃x,x=Sums.rounds ws s k:=⟨_,rfl⟩
   rw [<-hS] at HI
   obtain ⟨c0,c1,c2,c3,c4,c5,c6,c7⟩:=IsSums.cells HI.out
   have f0:=HI.out.frozen 0
   have hws64:ws.length=64:=by rw [HWS.out];exact sched2_length _ _ (sched1_length _ _)
   have cw:=HW.out.cell k (by omega)
   have ca:=(GlobS.of HGS.out HB.out).2 k hlt
   obtain ⟨wi,hwi⟩ : ∃x,x=ws.getD k 0:=⟨_,rfl⟩
   obtain ⟨ai,hai⟩ : ∃x,x=shaAdded.getD k 0:=⟨_,rfl⟩
   rw [<-hwi] at cw
   rw [<-hai] at ca
   have pk:0<=(k:Int):=by omega
   have qk:(k:Int)<64:=by omega
   have G1:=z_ (sigma_some S.e 6 11 25)
   have G2:=z_ (sigma_some S.a 2 13 22)
   obtain ⟨y1,hy1⟩ : ∃y,y=(sha_sigma.f S.e 6 11 25).getD 0:=⟨_,rfl⟩
   obtain ⟨y2,hy2⟩ : ∃y,y=(sha_sigma.f S.a 2 13 22).getD 0:=⟨_,rfl⟩
   rw [<-hy1] at G1
   rw [<-hy2] at G2
   have HX:=z_ (And.intro hS (And.intro hwi (And.intro hai (And.intro hy1 (And.intro hy2 hlt)))))
   clear hS hwi hai hy1 hy2 hws64 hlt
   go_wp2_with fail
   go_quiet (fail)
   go_wp2_with fail
   go_quiet ((go_at_call 116;(first|exact quiet_drawn2 (sha_sigma.calls S.e 6 11 25 y1 _ G1.out)|exact quiet_drawn (sha_sigma.calls S.e 6 11 25 y1 _ G1.out))))
   go_wp2_with fail
   go_quiet ((go_at_call 116;(first|exact quiet_drawn2 (sha_sigma.calls S.a 2 13 22 y2 _ G2.out)|exact quiet_drawn (sha_sigma.calls S.a 2 13 22 y2 _ G2.out))))
   go_wp2_with fail
   refine still_tail_at 30 (by kernel_rfl) (by kernel_rfl) (fun W hW=>?_)
   have HIW:IsWords W g 149 S.list:=by rw [hW];exact HI.out
   have HWW:Aside0 (IsWords W gw 161 ws):=⟨by rw [hW];exact HW.out⟩
   have HSW:Aside0 (IsWords W gs 149 s.list):=⟨by rw [hW];exact HS.out⟩
   have HBW:Aside0 (Below w0.heap.size w0 W):=⟨by rw [hW];exact below_drew1 (pw_below_drewN (pw_below_drewN (pw_below_drewN HB.out _) _) _)⟩
   have HKW:Aside0 (KeepBut w W g none):=⟨by rw [hW];exact HK.out⟩
   obtain ⟨c0,c1,c2,c3,c4,c5,c6,c7⟩:=IsSums.cells HIW
   have f0:=HIW.frozen 0
   have f1:=HIW.frozen 1
   have f2:=HIW.frozen 2
   have f3:=HIW.frozen 3
   have f4:=HIW.frozen 4
   have f5:=HIW.frozen 5
   have f6:=HIW.frozen 6
   have f7:=HIW.frozen 7
   have HIw:=z_ HIW
   clear HIW hW HI HW HS HB HK cw ca
   simp only [List.take_succ_cons,List.take_zero,List.drop_succ_cons,List.drop_zero]
   repeat still_step
   refine wpStill_nil ?_
   go_wp2_with fail
   go_roundw
   case measure=>simp [intOf];have:=HX.out.2.2.2.2.2;omega
   case rel=>
    refine ⟨k+1,by have:=HX.out.2.2.2.2.2;omega,by go_num,⟨?_⟩,⟨?_⟩,⟨?_⟩,⟨?_⟩,⟨?_⟩⟩
    ·have hX:=HX.out
     have hp:=put8_words HIw.out ((S.h+y1+Go.bits .xor .u32 (Go.bits .and .u32 S.e (Go.bits .xor .u32 S.f S.g)) S.g+ai+wi+(y2+Go.bits .or .u32 (Go.bits .and .u32 S.a (Go.bits .or .u32 S.b S.c)) (Go.bits .and .u32 S.b S.c)))%4294967296) S.a S.b S.c ((S.d+(S.h+y1+Go.bits .xor .u32 (Go.bits .and .u32 S.e (Go.bits .xor .u32 S.f S.g)) S.g+ai+wi))%4294967296) S.e S.f S.g
     have hq:(Sums.rounds ws s (k+1)).list = [(S.h+y1+Go.bits .xor .u32 (Go.bits .and .u32 S.e (Go.bits .xor .u32 S.f S.g)) S.g+ai+wi+(y2+Go.bits .or .u32 (Go.bits .and .u32 S.a (Go.bits .or .u32 S.b S.c)) (Go.bits .and .u32 S.b S.c)))%4294967296,S.a,S.b,S.c,(S.d+(S.h+y1+Go.bits .xor .u32 (Go.bits .and .u32 S.e (Go.bits .xor .u32 S.f S.g)) S.g+ai+wi))%4294967296,S.e,S.f,S.g]:=by
      simp only [Sums.rounds]
      rw [<-hX.1,<-hX.2.1,<-hX.2.2.1]
      simp only [Sums.round,Sums.list]
      rw [<-hX.2.2.2.1,<-hX.2.2.2.2.1]
      generalize Go.bits .xor .u32 (Go.bits .and .u32 S.e (Go.bits .xor .u32 S.f S.g)) S.g=X
      generalize Go.bits .or .u32 (Go.bits .and .u32 S.a (Go.bits .or .u32 S.b S.c)) (Go.bits .and .u32 S.b S.c)=Y
      have q1:((S.h+y1+X+ai+wi)%4294967296+(y2+Y)%4294967296)%4294967296=(S.h+y1+X+ai+wi+(y2+Y))%4294967296:=by omega
      have q2:(S.d+(S.h+y1+X+ai+wi)%4294967296)%4294967296=(S.d+(S.h+y1+X+ai+wi))%4294967296:=by omega
      rw [q1,q2]
     rw [hq]
     exact hp
    ·exact put8_far HWW.out (by rw [HGW.out];have:=HLT.out;omega) _ _ _ _ _ _ _ _
    ·exact put8_far HSW.out (by rw [HGSz.out];have:=HLT.out;have:=HB1.out.size;omega) _ _ _ _ _ _ _ _
    ·exact put8_below HBW.out hge _ _ _ _ _ _ _ _
    ·exact put8_keep HKW.out _ _ _ _ _ _ _ _
  ·have hd:decide ((k:Int)<64)=false:=by simp;omega
   have hk64:k=64:=by omega
   rw [hk64] at HI
   obtain ⟨S,hS⟩ : ∃x,x=Sums.rounds ws s 64:=⟨_,rfl⟩
   rw [<-hS] at HI
   obtain ⟨c0,c1,c2,c3,c4,c5,c6,c7⟩:=IsSums.cells HS.out
   have HX:=z_ hS
   clear hS hk64 hk hlt HW
   go_wp2_with fail
   clear c0 c1 c2 c3 c4 c5 c6 c7 hd HS
   go_loopw [119] (fun v119 wr=>∃k:Nat,k<=8/\v119 = .int .i64 k/\Aside0 (IsWords wr g 149 (addW S.list s.list k))/\Aside0 (Below w0.heap.size w0 wr)/\Aside0 (KeepBut w wr g none)) (fun v119 _=>8-(intOf v119).toNat)
   case atStart=>exact ⟨0,by omega,rfl,HI,HB,HK⟩
   case round=>
    clear HI HB HK
    obtain ⟨k,hk,rfl,HI,HB,HK⟩:=hrel
    by_cases hlt:k<8
    ·have hd:decide ((k:Int)<8)=true:=by simp;omega
     have hix:=sums_index s k hlt
     have pk:0<=(k:Int):=by omega
     have qk:(k:Int)<8:=by omega
     obtain ⟨y,hy⟩ : ∃y,y=s.list.getD k 0:=⟨_,rfl⟩
     obtain ⟨x,hx⟩ : ∃x,x=(addW S.list s.list k).getD k 0:=⟨_,rfl⟩
     have hc:=HI.out.cell k (by rw [addW_length];exact hlt)
     have hf:=HI.out.frozen k
     rw [<-hx] at hc
     rw [<-hy] at hix
     have HXY:=z_ (And.intro hx (And.intro hy hlt))
     clear hx hy hlt
     go_wp2_with fail
     refine still_tail_at 9 (by kernel_rfl) (by kernel_rfl) (fun W hW=>?_)
     have hcW:W.cell? ⟨g,k,none⟩=some (.int .u32 x):=by rw [hW];exact hc
     have hfW:W.frozen? ⟨g,k,none⟩=false:=by rw [hW];exact hf
     have HIW:Aside0 (IsWords W g 149 (addW S.list s.list k)):=⟨by rw [hW];exact HI.out⟩
     have HBW:Aside0 (Below w0.heap.size w0 W):=⟨by rw [hW];exact below_drew1 HB.out⟩
     have HKW:Aside0 (KeepBut w W g none):=⟨by rw [hW];exact HK.out⟩
     clear hW HI HB HK hc hf
     simp only [List.take_succ_cons,List.take_zero,List.drop_succ_cons,List.drop_zero]
     repeat still_step
     refine wpStill_nil ?_
     go_wp2_with fail
     go_roundw
     case measure=>simp [intOf];have:=HXY.out.2.2;omega
     case rel=>
      refine ⟨k+1,by have:=HXY.out.2.2;omega,by go_num,⟨?_⟩,⟨HBW.out.setCell hge _⟩,⟨HKW.out.set_ _ _⟩⟩
      simp only [addW]
      rw [<-HXY.out.1,<-HXY.out.2.1]
      exact HIW.out.set k _
    ·have hd:decide ((k:Int)<8)=false:=by simp;omega
     have hk8:k=8:=by omega
     rw [hk8] at HI
     clear hk8 hk hlt
     go_wp2_with fail
     go_end0
     refine ⟨rfl,?_,HB.out,HK.out⟩
     unfold Sums.take
     rw [<-HWS.out,<-HX.out]
     exact HI.out
end Go.Proofs.YtdeneoknjeegbaaDoor.P
end
section
namespace Go.Proofs.YtdeneoknjeegbaaDoor.P
open Go.RowKit YtdeneoknjeegbaaDoorW.PrintWords YtdeneoknjeegbaaDoorW.PrintLast YtdeneoknjeegbaaDoorW.PrintMore
def Sums.of (l:List Int):Sums:=⟨l.getD 0 0,l.getD 1 0,l.getD 2 0,l.getD 3 0,l.getD 4 0,l.getD 5 0,l.getD 6 0,l.getD 7 0⟩
theorem Sums.of_list (l:List Int) (h:l.length=8):(Sums.of l).list=l:=by
 match l,h with
 | [a,b,c,d,e,f,g,h],_=>rfl
theorem Sums.take_length (s:Sums) (bs:List Int):(s.take bs).length=8:=by
 unfold Sums.take
 rw [addW_length]
 rfl
def Sums.blocks (s:Sums) (bs:List Int):Nat->Sums
 | 0=>s
 | i+1=>Sums.of ((Sums.blocks s bs i).take (bs.drop (64*i)))
def Sums.first:Sums:=Sums.of shaFirst
def tailBlocks (n:Nat):Nat:=if n%64+9>64 then 2 else 1
def nblocks (n:Nat):Nat:=n/64+tailBlocks n
attribute [local go_sem] max2_int min2_int max_two min_two in
set_option maxHeartbeats 4000000 in
set_option maxRecDepth 100000 in
theorem blocks_calls (n:Nat) (hn:n<=140737488355328) (w:World):
 Calls Tryd.prog 109 #[.int .i64 (n:Int)] w fun e w'=>e = .returned (.int .i64 (nblocks n:Int))/\Below w.heap.size w w':=by
 have HB:=z_ (Below.refl w.heap.size w)
 obtain ⟨j,hj⟩ : ∃j:Int,j=(n:Int):=⟨_,rfl⟩
 have hj0 : ¬j<0:=by omega
 have hmx:(if j<0 then 0 else j)=j:=if_neg hj0
 have hjm:j<=140737488355328:=by omega
 have hj1:0<=j:=by omega
 rw [<-hj]
 have hw0:wrap64 (j/64)=j/64:=by unfold wrap64;omega
 have hw1:wrap64 (j/64+1)=j/64+1:=by unfold wrap64;omega
 have hw2:wrap64 (j/64+1+1)=j/64+1+1:=by unfold wrap64;omega
 by_cases c4:j%64+1+8>64
 ·have c4b0:decide (64<j%64+1+8)=true:=decide_eq_true c4
  have hr:j/64+1+1=(nblocks n:Int):=by unfold nblocks tailBlocks;rw [if_pos (by omega)];omega
  have HR:=z_ hr
  clear hr c4 hj
  go_enter Tryd.func109,Tryd.ntmps109
  go_wp2
  go_ret
  exact ⟨by rw [<-HR.out];rfl,by repeat (first|(with_reducible first|exact HB.out|apply below_alloc|apply pw_below_drewN|apply below_drew1)|exact HB.out)⟩
 ·have c4b0:decide (64<j%64+1+8)=false:=decide_eq_false c4
  have hr:j/64+1=(nblocks n:Int):=by unfold nblocks tailBlocks;rw [if_neg (by omega)];omega
  have HR:=z_ hr
  clear hr c4 hj
  go_enter Tryd.func109,Tryd.ntmps109
  go_wp2
  go_ret
  exact ⟨by rw [<-HR.out];rfl,by repeat (first|(with_reducible first|exact HB.out|apply below_alloc|apply pw_below_drewN|apply below_drew1)|exact HB.out)⟩
def IsBytes (w:World) (g t:Nat) (xs:List Int):Prop:=w.heap[g]? = some (.cells (xs.map (Value.int .u8)).toArray t (0,0))
theorem IsBytes.cell {w:World} {g t:Nat} {xs:List Int} (h:IsBytes w g t xs) (i:Nat) (hi:i<xs.length):w.cell? ⟨g,i,none⟩=some (.int .u8 (xs.getD i 0)):=by
 refine (blk_cell h i).trans ?_
 rw [List.getElem?_toArray,List.getElem?_map,List.getElem?_eq_getElem hi,List.getD_eq_getElem?_getD,List.getElem?_eq_getElem hi]
 rfl
theorem IsBytes.frozen {w:World} {g t:Nat} {xs:List Int} (h:IsBytes w g t xs) (i:Nat):w.frozen? ⟨g,i,none⟩=false:=blk_frozen h i
theorem IsBytes.set {w:World} {g t:Nat} {xs:List Int} (h:IsBytes w g t xs) (i:Nat) (x:Int):IsBytes (w.setCell ⟨g,i,none⟩ (.int .u8 x)) g t (xs.set i x):=by
 unfold IsBytes
 have e:((xs.set i x).map (Value.int .u8)).toArray=((xs.map (Value.int .u8)).toArray).setIfInBounds i (.int .u8 x):=by rw [List.map_set];simp
 rw [e]
 exact blk_set h i _
theorem IsBytes.C {w:World} {g t o n:Nat} {xs:List Int} (h:IsBytes w g t xs) (hn:o+n<=xs.length) (hm:n<=9223372036854775807):Kd.C (Kd.int .u8) w (some ⟨g,o,none⟩) n ((xs.drop o).take n):=by
 refine Kd.C_of_reads (h1:=fun _=>rfl) (d:=0) ⟨by rw [List.length_take,List.length_drop];omega,hm,fun _=>⟨_,rfl,fun j hj=>?_⟩⟩
 have:=h.cell (o+j) (by omega)
 rw [show (Addr.add ⟨g,o,none⟩ j)=⟨g,o+j,none⟩ from by simp [Addr.add]]
 rw [this]
 simp [List.getElem?_take,hj]
theorem IsBytes.R {w:World} {g e n base:Nat} {xs:List Int} (h:IsBytes w g e xs) (hb:base<=g) (hn:xs.length=n) (hm:n<=maxLen):Kd.R (Kd.int .u8) e w base (fun _=>True) (.slice (some ⟨g,0,none⟩) n n) xs:=by
 subst hn
 refine Kd.R_of_own ⟨by simp [encs_length],.inr ⟨g,xs.length,_,rfl,hb,h,Nat.le_refl _,hm,by simp,by simp [encs,List.take_of_length_le]⟩⟩ (fun _ _=>trivial)
theorem IsBytes.lt {w:World} {g t:Nat} {xs:List Int} (h:IsBytes w g t xs):g<w.heap.size:=by
 unfold IsBytes at h
 obtain ⟨hl,-⟩:=Array.getElem?_eq_some_iff.1 h
 exact hl
theorem IsBytes.below {w w1:World} {g t B:Nat} {xs:List Int} (h:IsBytes w g t xs) (hb:Below B w w1) (hg:g<B):IsBytes w1 g t xs:=(hb.block g hg).trans h
theorem IsWords.lt {w:World} {g t:Nat} {xs:List Int} (h:IsWords w g t xs):g<w.heap.size:=by
 unfold IsWords at h
 obtain ⟨hl,-⟩:=Array.getElem?_eq_some_iff.1 h
 exact hl
theorem IsWords.below {w w1:World} {g t B:Nat} {xs:List Int} (h:IsWords w g t xs) (hb:Below B w w1) (hg:g<B):IsWords w1 g t xs:=(hb.block g hg).trans h
theorem copy_src {w:World} {A:Option Addr} {n:Nat} {xs:List Int} (h:Kd.C (Kd.int .u8) w A n xs) (g:Nat):
 0<(xs.map (Value.int .u8)).length->some (⟨g,0,none⟩:Addr)=some ⟨g,0,none⟩/\∃ad,A=some ad/\∀j v,(xs.map (Value.int .u8))[j]? = some v->w.cell? (ad.add j)=some v:=by
 intro hp
 have hr:=Kd.reads_of_C (d:=0) h
 rw [List.length_map] at hp
 obtain ⟨ad,e,hc⟩:=hr.2.2 (by have:=hr.1;omega)
 refine ⟨rfl,ad,e,fun j v hj=>?_⟩
 rw [List.getElem?_map] at hj
 obtain ⟨x,hx,rfl⟩:=Option.map_eq_some_iff.1 hj
 obtain ⟨hl,-⟩:=List.getElem?_eq_some_iff.1 hx
 rw [hc j (by have:=hr.1;omega)]
 simp [hx]
theorem IsBytes.of_splice {w:World} {g t n:Nat} {xs:List Int} (h:w.heap[g]? = some (.cells (splice (List.replicate n (Value.int .u8 0)) 0 (xs.map (Value.int .u8))).toArray t (0,0))):IsBytes w g t (xs++List.replicate (n-xs.length) 0):=by
 unfold IsBytes
 rw [h]
 simp [splice]
theorem pad_get (xs:List Int) (n:Nat) (h:xs.length<n):(xs++List.replicate (n-xs.length) (0:Int)).getD xs.length 0=0:=by
 rw [List.getD_eq_getElem?_getD,List.getElem?_append_right (Nat.le_refl _),Nat.sub_self,List.getElem?_replicate,if_pos (by omega)]
 rfl
def tail0 (rest:List Int):List Int:=(rest++List.replicate (128-rest.length) 0).set rest.length 128
def tailLen (m:Nat):Nat->Nat->Nat->List Int->List Int
 | 0,_,_,ys=>ys
 | k+1,x,i,ys=>if 0<x then tailLen m k (x/256) (i+1) (ys.set (m-i) ((x%256:Nat):Int)) else ys
def tailSize (n:Nat):Nat:=64*tailBlocks n
def tailOf (bs:List Int):List Int:=tailLen (tailSize bs.length) 8 (bs.length*8) 1 (tail0 (bs.drop (64*(bs.length/64))))
def wordByte (ws:List Int) (i:Nat):Int:=ws.getD (i/4) 0/2^(8*(3-i%4))%256
theorem wordByte_0 (ws:List Int) (i:Nat) (h:i%4=0):wordByte ws i=ws[i/4]?.getD 0/16777216%256:=by unfold wordByte;rw [h,List.getD_eq_getElem?_getD];rfl
theorem wordByte_1 (ws:List Int) (i:Nat) (h:i%4=1):wordByte ws i=ws[i/4]?.getD 0/65536%256:=by unfold wordByte;rw [h,List.getD_eq_getElem?_getD];rfl
theorem wordByte_2 (ws:List Int) (i:Nat) (h:i%4=2):wordByte ws i=ws[i/4]?.getD 0/256%256:=by unfold wordByte;rw [h,List.getD_eq_getElem?_getD];rfl
theorem wordByte_3 (ws:List Int) (i:Nat) (h:i%4=3):wordByte ws i=ws[i/4]?.getD 0%256:=by unfold wordByte;rw [h,List.getD_eq_getElem?_getD,show (2:Int)^(8*(3-3))=1 from rfl,Int.ediv_one]
def outB (ws:List Int):Nat->List Int
 | 0=>List.replicate 32 0
 | i+1=>(outB ws i).set i (wordByte ws i)
theorem outB_length (ws:List Int) (k:Nat):(outB ws k).length=32:=by
 induction k with
 | zero=>rfl
 | succ k ih=>simp [outB,ih]
def shaSum (bs:List Int):List Int:=
 outB (Sums.blocks (Sums.blocks Sums.first bs (bs.length/64)) ((tailOf bs).take (tailSize bs.length)) (tailBlocks bs.length)).list 32
set_option maxHeartbeats 4000000 in
set_option maxRecDepth 100000 in
theorem sum_any (A0:Option Addr) (cap:Nat) (bs:List Int) (w:World) (hr:Kd.C (Kd.int .u8) w A0 bs.length bs) (hc:bs.length<=cap) (hb:bs.length<=140737488355328) (hGS:GlobS w):
 Calls Tryd.prog 103 #[.slice A0 bs.length cap] w fun e w'=>∃v0_,e = .returned v0_/\Kd.R (Kd.int .u8) 5 w' w.heap.size (fun _=>True) v0_ (shaSum bs)/\Below w.heap.size w w':=by
 obtain ⟨k0,k1,k2,k3,k4,k5,k6,k7⟩:w.cell? ⟨0,0,none⟩=some (.int .u32 1779033703)/\w.cell? ⟨0,1,none⟩=some (.int .u32 3144134277)/\w.cell? ⟨0,2,none⟩=some (.int .u32 1013904242)/\w.cell? ⟨0,3,none⟩=some (.int .u32 2773480762)/\w.cell? ⟨0,4,none⟩=some (.int .u32 1359893119)/\w.cell? ⟨0,5,none⟩=some (.int .u32 2600822924)/\w.cell? ⟨0,6,none⟩=some (.int .u32 528734635)/\w.cell? ⟨0,7,none⟩=some (.int .u32 1541459225):=
  ⟨hGS.1 0 (by omega),hGS.1 1 (by omega),hGS.1 2 (by omega),hGS.1 3 (by omega),hGS.1 4 (by omega),hGS.1 5 (by omega),hGS.1 6 (by omega),hGS.1 7 (by omega)⟩
 have HR:=z_ hr
 have HC:=z_ hc
 have HGS:=z_ hGS
 have HBB:=z_ hb
 clear hr hc hGS
 go_enter Tryd.func103,Tryd.ntmps103
 go_wp2_with fail
 clear k0 k1 k2 k3 k4 k5 k6 k7
 obtain ⟨gS,hgS⟩ : ∃g,g=w.heap.size:=⟨_,rfl⟩
 rw [<-hgS]
 have HGg:=z_ hgS
 clear hgS
 go_loopw [0] (fun v0 wr=>∃(i:Nat) (A:Option Addr) (c:Nat),64*i<=bs.length/\v0 = .slice A (bs.drop (64*i)).length c/\Aside0 ((bs.drop (64*i)).length<=c)/\Aside0 (Kd.C (Kd.int .u8) w A (bs.drop (64*i)).length (bs.drop (64*i)))/\Aside0 (IsWords wr gS 149 (Sums.blocks Sums.first bs i).list)/\Aside0 (Below w.heap.size w wr)) (fun v0 _=>match v0 with | .slice _ n _=>n|_=>0)
 case atStart=>exact ⟨0,A0,cap,by omega,rfl,HC,HR,⟨by rw [HGg.out];exact heap_alloc_new w _⟩,⟨below_alloc (Below.refl _ _) _⟩⟩
 case round=>
  obtain ⟨i,A,c,hi,rfl,HCi,HRi,HI,HB⟩:=hrel
  obtain ⟨rs,hrs⟩ : ∃rs,rs=bs.drop (64*i):=⟨_,rfl⟩
  have hrl:rs.length=bs.length-64*i:=by rw [hrs,List.length_drop]
  rw [<-hrs] at HCi HRi
  rw [<-hrs]
  have HRS:=z_ hrs
  have HRL:=z_ hrl
  clear hrs
  by_cases hlt:64<=rs.length
  ·have hd:decide ((64:Int)<=(rs.length:Int))=true:=by simp;omega
   have HLT:=z_ hlt
   have hle:rs.length<9223372036854775807:=by omega
   clear hrl
   obtain ⟨i0,hi0,_,hsz0,_⟩:=info_parts info5
   obtain ⟨A2,hcut,hA2,hC2⟩:=print_drop_of (P:=Tryd.prog) (Value.int .u8) 0 31 5 .i64 Tryd.underlying31 hi0 hsz0 A c rs 64 (by omega) (by omega) HCi.out
   have HA2:=z_ (Kd.C_of_reads (h1:=fun _=>rfl) (hA2 _ (Kd.reads_of_C HRi.out)))
   have HC2:=z_ hC2
   clear hA2 hC2 hi0 hsz0
   go_wp2_with fail
   refine (take_calls gS _ A c rs w _ HI.out (by rw [HGg.out];exact Nat.le_refl _) (Kd.C_below HRi.out HB.out) HCi.out hlt hle HB.out HGS.out).mono ?_
   rintro e2 w2 ⟨rfl,hI2,hB2,hK2⟩
   have HI2:=z_ hI2
   have HB2:=z_ hB2
   clear hI2 hB2 hK2 HI HB
   go_wp2_with fail
   have hdr:rs.drop 64=bs.drop (64*(i+1)):=by rw [HRS.out,List.drop_drop];congr 1
   have hln:(bs.drop (64*(i+1))).length=rs.length-64:=by rw [<-hdr,List.length_drop]
   have hrl:=HRL.out
   refine ⟨⟨i+1,A2,c-64,by omega,by rw [hln],?_,?_,?_,HB2⟩,?_⟩
   ·exact ⟨by rw [<-hdr];exact HC2.out⟩
   ·exact ⟨by rw [<-hdr];exact HA2.out⟩
   ·exact ⟨by show IsWords w2 gS 149 (Sums.of ((Sums.blocks Sums.first bs i).take (bs.drop (64*i)))).list;rw [Sums.of_list _ (Sums.take_length _ _),<-HRS.out];exact HI2.out⟩
   ·show rs.length-64<rs.length;omega
  ·have hd:decide ((64:Int)<=(rs.length:Int))=false:=by simp;omega
   have HLT:=z_ hlt
   clear hrl
   have hl64:rs.length<64:=by omega
   obtain ⟨W1,hW1⟩ : ∃W1,W1=wr.alloc (Obj.cells Tryd.zeroCells151 151):=⟨_,rfl⟩
   have HTAIL:W1.heap[wr.heap.size]? = some (.cells (List.replicate 128 (Value.int .u8 0)).toArray 151 (0,0)):=by rw [hW1];exact heap_alloc_new wr _
   have hBW:Below wr.heap.size wr W1:=by rw [hW1];exact below_alloc (Below.refl _ _) _
   have hcs:=copy_src (Kd.C_below (Kd.C_below HRi.out HB.out) hBW) wr.heap.size
   go_wp2_with (refine wpList_copy_splice rfl (.tmp 21) (.tmp 22) 31 31 rfl 5 Tryd.underlying31 (by kernel_rfl) (some ⟨wr.heap.size,0,none⟩) A 128 128 rs.length c rfl rfl wr.heap.size 0 (List.replicate 128 (.int .u8 0)) 151 (by rw [<-hW1];exact HTAIL) (rs.map (Value.int .u8)) (by rw [List.length_map];exact (Nat.min_eq_left (by omega)).symm) (by rw [<-hW1];exact hcs) (by simp;omega) (by simp [Value.oneCell']) wr.heap.size _ (Below.refl _ _) (Nat.le_refl _) ?_;intro w2 HG2 hB2;have hTB:=IsBytes.of_splice HG2.out;have hc2:=hTB.cell rs.length (by simp;omega);have hf2:=hTB.frozen rs.length;rw [pad_get rs 128 (by omega)] at hc2)
   refine (blocks_calls bs.length HBB.out _).mono ?_
   rintro e3 w3 ⟨rfl,hB3⟩
   have hT3:IsBytes w3 wr.heap.size 151 (tail0 rs):=(hTB.set rs.length 128).below hB3 (by have:=hTB.lt;simpa using this)
   rw [<-hW1] at hB2
   have hB4:Below wr.heap.size wr w3:=((hBW.trans hB2).setCell (p:=⟨wr.heap.size,rs.length,none⟩) (Nat.le_refl _) _).trans (hB3.mono (by have:=hTB.lt;simpa using Nat.le_of_lt this))
   have HI3:Aside0 (IsWords w3 gS 149 (Sums.blocks Sums.first bs i).list):=⟨HI.out.below hB4 HI.out.lt⟩
   have HB3:Aside0 (Below w.heap.size w w3):=⟨HB.out.trans (hB4.mono HB.out.size)⟩
   obtain ⟨tg,htg⟩ : ∃tg,tg=wr.heap.size:=⟨_,rfl⟩
   have hgt:gS<tg:=by rw [htg];exact HI.out.lt
   have hwt:w.heap.size<=tg:=by rw [htg];exact HB.out.size
   rw [<-htg] at hT3
   rw [<-htg]
   have HT3:=z_ hT3
   obtain ⟨d,hd2⟩ : ∃d,d=tailBlocks bs.length:=⟨_,rfl⟩
   have hd12:d=1\/d=2:=by rw [hd2];unfold tailBlocks;split<;>simp
   obtain ⟨m,hm⟩ : ∃m,m=64*d:=⟨_,rfl⟩
   have hmt:m=tailSize bs.length:=by rw [hm,hd2];rfl
   obtain ⟨nb,hnb⟩ : ∃nb:Int,nb=(nblocks bs.length:Int):=⟨_,rfl⟩
   have hnq:nb=(bs.length:Int)/64+(d:Int):=by rw [hnb,hd2];unfold nblocks;omega
   rw [<-hnb]
   have e1:nb-(bs.length:Int)/64=(d:Int):=by omega
   have e2:(64:Int)*(d:Int)=(m:Int):=by omega
   have e3:IntKind.i64.wrap (d:Int)=(d:Int):=(by rw [IntKind.wrap_i64];omega)
   have e4:IntKind.i64.wrap (m:Int)=(m:Int):=(by rw [IntKind.wrap_i64];omega)
   have e5:(m:Int)<=128:=by omega
   have e6:(0:Int)<=(m:Int):=by omega
   have HDT:=z_ hd2
   have HM:=z_ hm
   have HMT:=z_ hmt
   have HD:=z_ hd12
   have HHG:=z_ hgt
   have HHW:=z_ hwt
   clear hT3 htg hB4 hB3 hTB hc2 hf2 hB2 HG2 hBW hcs HTAIL hW1 hm hmt hd12 hnb hnq hd2 hgt hwt hd
   go_wp2_with fail
   obtain ⟨T,hT⟩ : ∃T,T=tailLen m 8 (bs.length*8) 1 (tail0 rs):=⟨_,rfl⟩
   have HTT:=z_ hT
   have ht0:(tail0 rs).length=128:=by unfold tail0;rw [List.length_set,List.length_append,List.length_replicate];omega
   go_loopw [7,8] (fun v7 v8 wq=>∃(f x q:Nat) (ys:List Int),v7 = .int .i64 (q:Int)/\v8 = .int .u64 (x:Int)/\Aside0 (x<256^f)/\Aside0 (q+f=9/\1<=q/\ys.length=128)/\Aside0 (tailLen m f x q ys=T)/\Aside0 (IsBytes wq tg 151 ys)/\Aside0 (IsWords wq gS 149 (Sums.blocks Sums.first bs i).list)/\Aside0 (Below w.heap.size w wq)) (fun _ v8 _=>(intOf v8).toNat)
   case atStart=>exact ⟨8,bs.length*8,1,tail0 rs,by go_num,by go_num,⟨by have:=HBB.out;omega⟩,⟨by omega,by omega,ht0⟩,⟨HTT.out.symm⟩,HT3,HI3,HB3⟩
   case round=>
    obtain ⟨f,x,q,ys,rfl,rfl,HX,HQ,HTl,HTq,HIq,HBq⟩:=hrel
    clear HT3 HI3 HB3 ht0 hT
    by_cases hx0:0<x
    ·have hd:decide ((0:Int)<(x:Int))=true:=by simp;omega
     obtain ⟨f,rfl⟩ : ∃f',f=f'+1:=by
      cases f with
      | zero=>have:=HX.out;omega
      | succ f=>exact ⟨f,rfl⟩
     have hq9:=HQ.out
     obtain ⟨mq,hmq⟩ : ∃mq,mq=m-q:=⟨_,rfl⟩
     have hmv:=HM.out
     have hdv:=HD.out
     have g1:(m:Int)-(q:Int)=(mq:Int):=by omega
     have g2:IntKind.i64.wrap (mq:Int)=(mq:Int):=(by rw [IntKind.wrap_i64];omega)
     have g3:(mq:Int)<(m:Int):=by omega
     have hq7:(q:Int)<10:=by omega
     have hcq:=HTq.out.cell mq (by omega)
     have hfq:=HTq.out.frozen mq
     have HMQ:=z_ hmq
     clear hmq hq9 hmv hdv
     go_wp2_with fail
     have hq9:=HQ.out
     have hxf:=HX.out
     have e:(x:Int)%256=((x%256:Nat):Int):=by omega
     refine ⟨⟨f,x/256,q+1,ys.set mq ((x%256:Nat):Int),by go_num,by go_num,⟨by rw [Nat.pow_succ] at hxf;omega⟩,⟨by omega,by omega,by rw [List.length_set];omega⟩,⟨?_⟩,⟨?_⟩,⟨?_⟩,⟨HBq.out.setCell (by show w.heap.size<=tg;exact HHW.out) _⟩⟩,?_⟩
     ·rw [<-HTl.out,tailLen,if_pos hx0,<-HMQ.out]
     ·rw [e];exact HTq.out.set mq _
     ·exact (KeepBut.refl _ tg none |>.set_ _ _).blk HIq.out (by have:=HHG.out;omega) (by simp)
     ·simp only [intOf];omega
    ·have hd:decide ((0:Int)<(x:Int))=false:=by simp;omega
     obtain rfl:x=0:=by omega
     have hTy:ys=T:=by rw [<-HTl.out];cases f<;>rfl
     subst hTy
     clear HTl HX
     have HL:=z_ HQ.out.2.2
     clear HQ
     go_wp2_with fail
     have hmd:=HM.out
     have hd12:=HD.out
     go_loopw [6] (fun v6 wz=>∃(k n c:Nat) (A:Option Addr),k<=d/\v6 = .slice A n c/\n+64*k=m/\n<=c/\(k<d->A=some ⟨tg,64*k,none⟩)/\Aside0 (IsBytes wz tg 151 ys)/\Aside0 (IsWords wz gS 149 (Sums.blocks (Sums.blocks Sums.first bs i) (ys.take m) k).list)/\Aside0 (Below w.heap.size w wz)) (fun v6 _=>match v6 with | .slice _ n _=>n|_=>0)
     case atStart=>exact ⟨0,m,128,_,by omega,rfl,by omega,by omega,fun _=>rfl,HTq,HIq,HBq⟩
     case round=>
      obtain ⟨k,n,c,A,hk,rfl,hnm,hnc,hA,HTz,HIz,HBz⟩:=hrel
      clear HTq HIq HBq
      by_cases hkd:k<d
      ·obtain rfl:=hA hkd
       clear hA
       obtain ⟨us,hus⟩ : ∃us,us=(ys.drop (64*k)).take n:=⟨_,rfl⟩
       have hyl:=HL.out
       have hul:us.length=n:=by rw [hus,List.length_take,List.length_drop];omega
       have hCu:=HTz.out.C (o:=64*k) (n:=n) (by omega) (by omega)
       rw [<-hus] at hCu
       have HCU:=z_ hCu
       have HUS:=z_ hus
       clear hCu hus
       obtain rfl:=hul
       have hd:decide ((0:Int)<(us.length:Int))=true:=by simp;omega
       have hu64:(64:Int)<=(us.length:Int):=by omega
       have hu65:(us.length:Int)<=(c:Int):=by omega
       have hgS:=HHG.out
       go_wp2_with fail
       refine (take_calls gS _ (some ⟨tg,64*k,none⟩) c us w _ HIz.out (by rw [HGg.out];exact Nat.le_refl _) HCU.out hnc (by omega) (by omega) HBz.out HGS.out).mono ?_
       rintro e2 w2 ⟨rfl,hI2,hB2,hK2⟩
       have HI2:=z_ hI2
       have HB2:=z_ hB2
       have HT2:=z_ (show IsBytes w2 tg 151 ys from hK2.blk HTz.out (by omega) (by simp))
       clear hI2 hB2 hK2 HIz HBz HTz
       go_wp2_with fail
       have hus2:=HUS.out
       refine ⟨⟨k+1,us.length-64,c-64,_,by omega,rfl,by omega,by omega,fun hk1=>?_,HT2,⟨?_⟩,HB2⟩,?_⟩
       ·rw [if_neg (by omega),show 64*(k+1)=64*k+64 from by omega]
       ·show IsWords _ gS 149 (Sums.of ((Sums.blocks (Sums.blocks Sums.first bs i) (ys.take m) k).take ((ys.take m).drop (64*k)))).list
        rw [Sums.of_list _ (Sums.take_length _ _),List.drop_take,show m-64*k=us.length from by omega,<-hus2]
        exact HI2.out
       ·show us.length-64<us.length
        omega
      ·obtain rfl:k=d:=by omega
       obtain rfl:n=0:=by omega
       clear hA
       have hd:decide ((0:Int)<((0:Nat):Int))=false:=by decide
       clear hd
       have hmk : ∀W:World,(Instr.makeSlice 31 (.int .i64 32) (.int .i64 32)).run Tryd.prog W = .ok (.slice (some ⟨W.heap.size,0,none⟩) 32 32) (W.alloc (Obj.cells (((List.replicate 32 (0:Int)).map (Value.int .u8)).toArray) 5 (0,0))):=fun _=>by kernel_rfl
       have hd:decide ((0:Int)<((0:Nat):Int))=false:=by decide
       go_wp2_with fail
       obtain ⟨ss,hss⟩ : ∃ss,ss=Sums.blocks (Sums.blocks Sums.first bs i) (ys.take m) k:=⟨_,rfl⟩
       have HSS:=z_ hss
       rw [<-hss] at HIz
       obtain ⟨og,hog⟩ : ∃og,og=wr.heap.size:=⟨_,rfl⟩
       have hog2:og=wr.heap.size:=hog
       rw [<-hog]
       have HOG:w.heap.size<=og:=by rw [hog];exact HBz.out.size
       have hgo:gS<og:=by rw [hog];exact HIz.out.lt
       have HOGG:=z_ HOG
       have HGO:=z_ hgo
       have hAl:Below wr.heap.size wr (wr.alloc (Obj.cells (((List.replicate 32 (0:Int)).map (Value.int .u8)).toArray) 5 (0,0))):=below_alloc (Below.refl _ _) _
       clear hss hog hd HOG hgo HTz hmk
       go_loopw [59] (fun v59 wq=>∃j:Nat,j<=32/\v59 = .int .i64 (j:Int)/\Aside0 (IsBytes wq og 5 (outB ss.list j))/\Aside0 (IsWords wq gS 149 ss.list)/\Aside0 (Below w.heap.size w wq)) (fun v59 _=>32-(intOf v59).toNat)
       case atStart=>exact ⟨0,by omega,rfl,⟨by rw [hog2];exact heap_alloc_new wr _⟩,⟨HIz.out.below hAl HIz.out.lt⟩,⟨HBz.out.trans (hAl.mono HBz.out.size)⟩⟩
       case round=>
        obtain ⟨j,hj,rfl,HOj,HIj,HBj⟩:=hrel
        clear HIz HBz hAl hog2
        by_cases hj32:j<32
        ·have hd:decide ((j:Int)<32)=true:=by simp;omega
         obtain ⟨j4,hj4⟩ : ∃j4,j4=j/4:=⟨_,rfl⟩
         have g1:(j:Int)/4=(j4:Int):=by omega
         have g2:j4<8:=by omega
         have hcw:=HIj.out.cell j4 (by show j4<8;omega)
         have hlo:(outB ss.list j).length=32:=outB_length _ _
         have hco:=HOj.out.cell j (by omega)
         have hfo:=HOj.out.frozen j
         have HJ4:=z_ hj4
         clear hj4 hlo
         have hr4:(j:Int)%4=0\/(j:Int)%4=1\/(j:Int)%4=2\/(j:Int)%4=3:=by omega
         rcases hr4 with hr4|hr4|hr4|hr4
         ·go_wp2_with fail
          have hwb:wordByte ss.list j=ss.list[j4]?.getD 0/16777216%256:=by rw [wordByte_0 _ _ (by omega),<-HJ4.out]
          refine ⟨⟨j+1,by omega,by go_num,⟨?_⟩,⟨(KeepBut.refl _ og none |>.set_ _ _).blk HIj.out (by have:=HGO.out;omega) (by simp)⟩,⟨HBj.out.setCell (by show w.heap.size<=og;exact HOGG.out) _⟩⟩,by simp only [intOf];omega⟩
          rw [<-hwb]
          exact HOj.out.set j _
         ·go_wp2_with fail
          have hwb:wordByte ss.list j=ss.list[j4]?.getD 0/65536%256:=by rw [wordByte_1 _ _ (by omega),<-HJ4.out]
          refine ⟨⟨j+1,by omega,by go_num,⟨?_⟩,⟨(KeepBut.refl _ og none |>.set_ _ _).blk HIj.out (by have:=HGO.out;omega) (by simp)⟩,⟨HBj.out.setCell (by show w.heap.size<=og;exact HOGG.out) _⟩⟩,by simp only [intOf];omega⟩
          rw [<-hwb]
          exact HOj.out.set j _
         ·go_wp2_with fail
          have hwb:wordByte ss.list j=ss.list[j4]?.getD 0/256%256:=by rw [wordByte_2 _ _ (by omega),<-HJ4.out]
          refine ⟨⟨j+1,by omega,by go_num,⟨?_⟩,⟨(KeepBut.refl _ og none |>.set_ _ _).blk HIj.out (by have:=HGO.out;omega) (by simp)⟩,⟨HBj.out.setCell (by show w.heap.size<=og;exact HOGG.out) _⟩⟩,by simp only [intOf];omega⟩
          rw [<-hwb]
          exact HOj.out.set j _
         ·go_wp2_with fail
          have hwb:wordByte ss.list j=ss.list[j4]?.getD 0%256:=by rw [wordByte_3 _ _ (by omega),<-HJ4.out]
          refine ⟨⟨j+1,by omega,by go_num,⟨?_⟩,⟨(KeepBut.refl _ og none |>.set_ _ _).blk HIj.out (by have:=HGO.out;omega) (by simp)⟩,⟨HBj.out.setCell (by show w.heap.size<=og;exact HOGG.out) _⟩⟩,by simp only [intOf];omega⟩
          rw [<-hwb]
          exact HOj.out.set j _
        ·obtain rfl:j=32:=by omega
         have hd:decide (((32:Nat):Int)<32)=false:=by decide
         go_wp2_with fail
         go_ret
         have hrl:=HRL.out
         have hi64:i=bs.length/64:=by omega
         have hfin:outB ss.list 32=shaSum bs:=by
          unfold shaSum
          rw [HSS.out,HDT.out,HMT.out,hi64]
          unfold tailOf
          rw [<-hi64,<-HRS.out,<-HMT.out,<-HTT.out]
         rw [<-hfin]
         exact ⟨_,rfl,HOj.out.R HOGG.out (outB_length _ _) (by decide),HBj.out⟩
end Go.Proofs.YtdeneoknjeegbaaDoor.P
end
section
namespace Go.Proofs.YtdeneoknjeegbaaDoor.P
open Go.RowKit YtdeneoknjeegbaaDoorW.PrintWords YtdeneoknjeegbaaDoorW.PrintLast YtdeneoknjeegbaaDoorW.PrintMore
theorem shaSum_length (bs:List Int):(shaSum bs).length=32:=outB_length _ _
def sha_Sum.f (l0:List Int):Option (List Int):=if l0.length<=140737488355328 then some (shaSum l0) else none
def sha_Cut.f (a0:Int) (l1:List Int):Option (List Int):=if l1.length<=140737488355328 then some ((shaSum l1).take (mn (mx a0 0) 32).toNat) else none
attribute [local go_sem] max2_int min2_int max_two min_two
set_option maxHeartbeats 1000000 in
set_option maxRecDepth 100000 in
theorem sha_Cut.calls (a0:Int) (A1:Option Addr) (c1:Nat) (l1:List Int) (r:List Int) (w:World) (hr1:Kd.C (Kd.int .u8) w A1 l1.length l1) (hc1:l1.length<=c1) (hGS:GlobS w) (h:sha_Cut.f a0 l1=some r):
 Calls Tryd.prog 93 #[.int .i64 a0,.slice A1 l1.length c1] w fun e w'=>∃v0_:Value,e = .returned (v0_)/\Kd.V (Kd.int .u8) 5 w' w.heap.size (fun k_=>w.heap.size<=k_) v0_ r/\Below w.heap.size w w':=by
 unfold sha_Cut.f at h
 split at h
 case isFalse=>cases h
 case isTrue hb=>
  obtain rfl:=Option.some.inj h
  obtain ⟨j,hj⟩ : ∃j,j=mx a0 0:=⟨_,rfl⟩
  obtain ⟨n,hn⟩ : ∃n,n=mn j 32:=⟨_,rfl⟩
  have e1:(if a0<0 then 0 else a0)=j:=hj.symm
  have e2:(if 32<j then 32 else j)=n:=hn.symm
  have hn0:0<=n:=by rw [<-e2,<-e1];split<;>split<;>omega
  have hn32:n<=32:=by rw [<-e2];split<;>omega
  obtain ⟨m,rfl⟩ : ∃m:Nat,n=(m:Int):=⟨n.toNat,by omega⟩
  rw [<-hj,<-hn,Int.toNat_natCast]
  have HR:=z_ hr1
  have HC:=z_ hc1
  have HGS:=z_ hGS
  clear h hr1 hc1 hGS hj hn
  go_enter Tryd.func93,Tryd.ntmps93
  go_wp2_with fail
  refine (sum_any A1 c1 l1 w HR.out HC.out hb HGS.out).mono ?_
  rintro e w1 ⟨v,rfl,hR1,hB1⟩
  obtain ⟨A,c,rfl⟩:=Kd.R_slice hR1
  have hlc:=(Kd.R_reads' hR1).2.1
  have HR1:=z_ hR1
  have HB1:=z_ hB1
  clear hR1 hB1
  have hl32:(shaSum l1).length=32:=shaSum_length l1
  have hmc:(m:Int)<=(c:Int):=by omega
  have hm32:m<=32:=by omega
  go_wp2_with fail
  go_ret
  have hR2:Kd.R (Kd.int .u8) 5 w1 w.heap.size (fun k_=>w.heap.size<=k_) (.slice A m c) ((shaSum l1).take m):=Kd.R_mono (Kd.R_bound (Kd.R_take HR1.out (by omega))) (fun k hk=>hk.2.1)
  have hlm:((shaSum l1).take m).length=m:=by rw [List.length_take];omega
  have hV:=(Kd.V_at (Kd.R_V (base':=w.heap.size) hR2)).2.2
  have hV2:=Kd.V_mk (base:=w.heap.size) (e:=5) (Nat.le_refl _) hV
  rw [hlm] at hV2
  exact ⟨_,rfl,hV2,HB1.out⟩
end Go.Proofs.YtdeneoknjeegbaaDoor.P
end
section
namespace Go.Proofs.YtdeneoknjeegbaaDoor.P
open Go.RowKit YtdeneoknjeegbaaDoorW.PrintWords YtdeneoknjeegbaaDoorW.PrintLast YtdeneoknjeegbaaDoorW.PrintMore
attribute [local go_sem] max2_int min2_int max_two min_two max_three min_three max_four min_four
def annalsref01_right.f (a0:Int) (a1:Int):Option (Int):=if 0<=a1 then (if 0<=(wrap64 (32-a1)) then (some (Go.bits .or .u32 (shr .u32 a0 a1) (shl .u32 a0 (wrap64 (32-a1))))) else (none)) else (none)
end Go.Proofs.YtdeneoknjeegbaaDoor.P
end
section
namespace Go.Proofs.YtdeneoknjeegbaaDoor.P
open Go.RowKit YtdeneoknjeegbaaDoorW.PrintWords YtdeneoknjeegbaaDoorW.PrintLast YtdeneoknjeegbaaDoorW.PrintMore
def Sums.agg (s:Sums):Value:=.agg #[.int .u32 s.a,.int .u32 s.b,.int .u32 s.c,.int .u32 s.d,.int .u32 s.e,.int .u32 s.f,.int .u32 s.g,.int .u32 s.h]
def Sums.rround (s:Sums) (add:Int):Sums:=
 let s0:=Go.bits .xor .u32 (Go.bits .xor .u32 ((annalsref01_right.f s.a 2).getD 0) ((annalsref01_right.f s.a 13).getD 0)) ((annalsref01_right.f s.a 22).getD 0)
 let s1:=Go.bits .xor .u32 (Go.bits .xor .u32 ((annalsref01_right.f s.e 6).getD 0) ((annalsref01_right.f s.e 11).getD 0)) ((annalsref01_right.f s.e 25).getD 0)
 let choice:=Go.bits .xor .u32 (Go.bits .and .u32 s.e s.f) (Go.bits .and .u32 (Go.bits .xor .u32 IntKind.u32.max s.e) s.g)
 let most:=Go.bits .xor .u32 (Go.bits .xor .u32 (Go.bits .and .u32 s.a s.b) (Go.bits .and .u32 s.a s.c)) (Go.bits .and .u32 s.b s.c)
 ⟨(s.h+s1+choice+add+s0+most)%4294967296,s.a,s.b,s.c,(s.d+(s.h+s1+choice+add))%4294967296,s.e,s.f,s.g⟩

end Go.Proofs.YtdeneoknjeegbaaDoor.P
end
section
namespace Go.Proofs.YtdeneoknjeegbaaDoor.P
open Go.RowKit YtdeneoknjeegbaaDoorW.PrintWords YtdeneoknjeegbaaDoorW.PrintLast YtdeneoknjeegbaaDoorW.PrintMore
attribute [local go_sem] max2_int min2_int max_two min_two max_three min_three max_four min_four
def annalsref01_word.f (l0:List Int):Option (Int):=if 0<(l0.length:Int) then (if 1<(l0.length:Int) then (if 2<(l0.length:Int) then (if 3<(l0.length:Int) then (some ((((((((((rd l0 0)%4294967296)*16777216)%4294967296)+((((rd l0 1)%4294967296)*65536)%4294967296))%4294967296)+((((rd l0 2)%4294967296)*256)%4294967296))%4294967296)+((rd l0 3)%4294967296))%4294967296)) else (none)) else (none)) else (none)) else (none)
def annalsref01_Blocks.f (a0:Int):Option (Int):=if a0<0 then (some (((0:Int)/64)+(((((0:Int)%64)+9)+63)/64))) else (some (wrap64 ((wrap64 (Int.tdiv a0 64))+(wrap64 (Int.tdiv (wrap64 ((wrap64 ((Int.tmod a0 64)+9))+63)) 64)))))
end Go.Proofs.YtdeneoknjeegbaaDoor.P
end
section
namespace Go.Proofs.YtdeneoknjeegbaaDoor.P
open Go.RowKit YtdeneoknjeegbaaDoorW.PrintWords YtdeneoknjeegbaaDoorW.PrintLast YtdeneoknjeegbaaDoorW.PrintMore
def rblocks (n:Nat):Nat:=n/64+(n%64+72)/64
def rpad (bs:List Int) (k:Nat):List Int:=bs++[128]++List.replicate k 0
def rzeros (n:Nat):Nat:=64*rblocks n-8-(n+1)
def rlen (n:Nat):Nat->List Int
 | 0=>[]
 | k+1=>rlen n k++[(8*(n:Int))/2^(56-8*(k:Int)).toNat%256]
def rtext (bs:List Int):List Int:=rpad bs (rzeros bs.length)++rlen bs.length 8
def rword (ts:List Int):Int:=(annalsref01_word.f ts).getD 0
def rnext (ws:List Int) (i:Nat):Int:=
 let a:=ws.getD (i-15) 0
 let c:=ws.getD (i-2) 0
 (ws.getD (i-16) 0+Go.bits .xor .u32 (Go.bits .xor .u32 ((annalsref01_right.f a 7).getD 0) ((annalsref01_right.f a 18).getD 0)) (a/8)+ws.getD (i-7) 0+Go.bits .xor .u32 (Go.bits .xor .u32 ((annalsref01_right.f c 17).getD 0) ((annalsref01_right.f c 19).getD 0)) (c/1024))%4294967296
def rws (ts:List Int) (at_:Nat):Nat->List Int
 | 0=>zeros64
 | i+1=>(rws ts at_ i).set i (if i<16 then rword (ts.drop (at_+4*i)) else rnext (rws ts at_ i) i)
def rrounds (ts:List Int) (p:Nat) (h:Sums):Nat->Sums
 | 0=>h
 | i+1=>(rrounds ts p h i).rround ((shaAdded.getD i 0+(rws ts p (i+1)).getD i 0)%4294967296)
def rsums (ts:List Int):Nat->Sums
 | 0=>Sums.first
 | m+1=>Sums.of (addW (rsums ts m).list (rrounds ts (64*m) (rsums ts m) 64).list 8)
def rout (ws:List Int):Nat->List Int
 | 0=>[]
 | k+1=>rout ws k++[ws.getD k 0/16777216%256,ws.getD k 0/65536%256,ws.getD k 0/256%256,ws.getD k 0%256]
def refSum (bs:List Int):List Int:=rout (rsums (rtext bs) (rblocks bs.length)).list 8
structure RefMem (w0 w:World) (g3 g4:Nat) (hs:List Int):Prop where
 h3:IsWords w g3 148 hs
 h4:IsWords w g4 153 shaAdded
 bel:Below w0.heap.size w0 w
 ge3:w0.heap.size<=g3
 ne:g3≠g4
theorem RefMem.below {w0 w w1:World} {g3 g4:Nat} {hs:List Int} (h:RefMem w0 w g3 g4 hs) (hb:Below w.heap.size w w1):RefMem w0 w1 g3 g4 hs:=
 ⟨h.h3.below hb h.h3.lt,h.h4.below hb h.h4.lt,h.bel.trans (hb.mono h.bel.size),h.ge3,h.ne⟩
structure RefMem2 (w0 w:World) (g3 g4 g8 g9:Nat) (hs ws:List Int) (v:Sums) (vt:Value) (T:List Int):Prop where
 mem:RefMem w0 w g3 g4 hs
 h8:IsWords w g8 153 ws
 h9:IsWords w g9 148 v.list
 txt:Kd.R (Kd.int .u8) 5 w w0.heap.size (fun _=>True) vt T
 ge8:w0.heap.size<=g8
 ge9:w0.heap.size<=g9
 n38:g3≠g8
 n48:g4≠g8
 n39:g3≠g9
 n49:g4≠g9
 n89:g8≠g9
theorem RefMem2.below {w0 w w1:World} {g3 g4 g8 g9:Nat} {hs ws:List Int} {v:Sums} {vt:Value} {T:List Int} (h:RefMem2 w0 w g3 g4 g8 g9 hs ws v vt T) (hb:Below w.heap.size w w1):RefMem2 w0 w1 g3 g4 g8 g9 hs ws v vt T:=
 ⟨h.mem.below hb,h.h8.below hb h.h8.lt,h.h9.below hb h.h9.lt,Kd.R_below h.txt hb,h.ge8,h.ge9,h.n38,h.n48,h.n39,h.n49,h.n89⟩
def annalsref01_Sum.f (l0:List Int):Option (List Int):=if l0.length<=140737488355000 then some (refSum l0) else none
def B (x:Int):BitVec 32:=BitVec.ofInt 32 x
def BytesOk (bs:List Int):Prop:=∀x∈bs,0<=x/\x<=255
theorem rword_eq (ts:List Int) (h:4<=ts.length) (hb:BytesOk ts):rword ts=((ts.getD 0 0*256+ts.getD 1 0)*256+ts.getD 2 0)*256+ts.getD 3 0:=by
 unfold rword annalsref01_word.f
 rw [if_pos (by omega),if_pos (by omega),if_pos (by omega),if_pos (by omega),Option.getD_some]
 have g (j:Nat):0<=ts.getD j 0/\ts.getD j 0<=255:=by
  rw [List.getD_eq_getElem?_getD]
  by_cases hj:j<ts.length
  ·rw [List.getElem?_eq_getElem hj];exact hb _ (List.getElem_mem hj)
  ·rw [List.getElem?_eq_none (by omega)];simp
 have g0:=g 0
 have g1:=g 1
 have g2:=g 2
 have g3:=g 3
 unfold rd
 simp only [Int.toNat_zero,Int.toNat_one,show (2:Int).toNat=2 from rfl,show (3:Int).toNat=3 from rfl]
 omega
theorem getD_set_ne (xs:List Int) (i j:Nat) (x:Int) (h:i≠j):(xs.set i x).getD j 0=xs.getD j 0:=by
 rw [List.getD_eq_getElem?_getD,List.getElem?_set_ne h,<-List.getD_eq_getElem?_getD]
theorem BytesOk.get {bs:List Int} (h:BytesOk bs) (j:Nat):0<=bs.getD j 0/\bs.getD j 0<=255:=by
 rw [List.getD_eq_getElem?_getD]
 by_cases hj:j<bs.length
 ·rw [List.getElem?_eq_getElem hj];exact h _ (List.getElem_mem hj)
 ·rw [List.getElem?_eq_none (by omega)];simp
theorem BytesOk.drop {bs:List Int} (h:BytesOk bs) (j:Nat):BytesOk (bs.drop j):=fun x hx=>h x (List.mem_of_mem_drop hx)
def rd_bb (xs:List (List Int)) (i:Int):List Int:=xs.getD i.toNat []
theorem at_bb {w:World} {A:Option Addr} {n:Nat} {xs:List (List Int)} (h:Kd.C (Kd.slice 5 (Kd.int .u8)) w A n xs) (i:Int) (h0:0<=i) (h1:i<n) : ∃ad A0 c0,A=some ad/\w.cell? (ad.add i.toNat)=some (.slice A0 (rd_bb xs i).length c0)/\(rd_bb xs i).length<=c0/\(Kd.int .u8).C w A0 (rd_bb xs i).length (rd_bb xs i):=by
 obtain ⟨ad,c,e,_,hK,hc0⟩:=Kd.C_get h ([]:List Int) i h0 h1
 have hc : ∀j u,c[j]? = some u->w.cell? (ad.add (i.toNat*1+j))=some u:=hc0
 obtain ⟨A0,c0,rfl,l0,g0⟩:=hK
 exact ⟨ad,A0,c0,e,by have hq:=hc 0 _ rfl;rwa [Nat.mul_one,Nat.add_zero] at hq,l0,g0⟩
theorem long_calls (A:Option Addr) (n c:Nat) (w:World):
 Calls Tryd.prog 101 #[.slice A n c] w fun e w'=>e = .returned (.bool (decide (65535<(n:Int))))/\w'=w:=by
 go_enter Tryd.func101,Tryd.ntmps101
 go_wp2_with fail
 go_ret
 exact ⟨rfl,rfl⟩
def isLong (p:List Int):Bool:=decide (65535<(p.length:Int))
set_option maxHeartbeats 1000000 in
set_option maxRecDepth 100000 in
theorem index_long (A0:Option Addr) (c0:Nat) (l0:List (List Int)) (w:World) (hr0:Kd.C (Kd.slice 5 (Kd.int .u8)) w A0 l0.length l0) (hb:(l0.length:Int)<=9223372036854775807):
 Calls Tryd.prog 107 #[.slice A0 l0.length c0,.func (.func 101) #[] #[]] w fun e w'=>∃i:Int,e = .returned (.int .i64 i)/\decide (0<=i)=l0.any isLong/\w'=w:=by
 have HR:=z_ hr0
 clear hr0
 go_enter Tryd.func107,Tryd.ntmps107
 go_wp2_with fail
 go_loopw [8] (fun v8 wr=>∃k:Nat,k<=l0.length/\v8 = .int .i64 (k:Int)/\wr=w/\Aside0 (l0.any isLong=(l0.drop k).any isLong)) (fun v8 _=>l0.length-(intOf v8).toNat)
 case atStart=>exact ⟨0,by omega,rfl,rfl,⟨by rw [List.drop_zero]⟩⟩
 case round=>
  obtain ⟨k,hk,rfl,rfl,HA⟩:=hrel
  by_cases hlt:k<l0.length
  ·have hd:decide ((k:Int)<(l0.length:Int))=true:=by simp;omega
   obtain ⟨ad,A1,c1,rfl,hx,hc,hi⟩:=at_bb HR.out (k:Int) (by omega) (by omega)
   rw [Int.toNat_natCast] at hx
   have hdr:l0.drop k=rd_bb l0 k :: l0.drop (k+1):=by
    rw [List.drop_eq_getElem_cons hlt]
    unfold rd_bb
    rw [List.getD_eq_getElem?_getD,Int.toNat_natCast,List.getElem?_eq_getElem hlt]
    rfl
   have HDR:=z_ hdr
   clear hdr hi hc
   by_cases hL:65535<((rd_bb l0 k).length:Int)
   ·have hdL:decide (65535<((rd_bb l0 k).length:Int))=true:=decide_eq_true hL
    have HLL:=z_ hL
    clear hL
    go_wp2_with fail
    refine (long_calls A1 _ c1 _).mono ?_
    rintro e1 w1 ⟨rfl,rfl⟩
    rw [hdL]
    go_wp2_with fail
    go_ret
    have hany:l0.any isLong=true:=by rw [HA.out,HDR.out,List.any_cons,show isLong (rd_bb l0 k)=true from hdL];rfl
    exact ⟨_,rfl,by rw [hany];simp,rfl⟩
   ·have hdL:decide (65535<((rd_bb l0 k).length:Int))=false:=decide_eq_false hL
    have HLL:=z_ hL
    clear hL
    go_wp2_with fail
    refine (long_calls A1 _ c1 _).mono ?_
    rintro e1 w1 ⟨rfl,rfl⟩
    rw [hdL]
    go_wp2_with fail
    have hany:l0.any isLong=(l0.drop (k+1)).any isLong:=by rw [HA.out,HDR.out,List.any_cons,show isLong (rd_bb l0 k)=false from hdL];rfl
    exact ⟨⟨k+1,by omega,by go_num,trivial,⟨hany⟩⟩,by simp only [intOf];omega⟩
  ·obtain rfl:k=l0.length:=by omega
   have hd:decide ((l0.length:Int)<(l0.length:Int))=false:=by simp
   go_wp2_with fail
   go_ret
   exact ⟨_,rfl,by rw [HA.out,List.drop_length];rfl,rfl⟩
def slices_ContainsFunc_byte_byte.f (l0:List (List Int)) (a1:Int):Option Bool:=some (l0.any isLong)
set_option maxRecDepth 100000 in
theorem slices_ContainsFunc_byte_byte.calls (A0:Option Addr) (c0:Nat) (l0:List (List Int)) (a1:Int) (r:Bool) (w:World) (hr0:Kd.C (Kd.slice 5 (Kd.int .u8)) w A0 l0.length l0) (hc0:l0.length<=c0) (h:slices_ContainsFunc_byte_byte.f l0 a1=some r):
 Calls Tryd.prog 102 #[.slice A0 l0.length c0,.func (.func 101) #[] #[]] w fun e w'=>e = .returned (.bool r)/\Drawn0 w w':=by
 obtain rfl:=Option.some.inj h
 have hb:(l0.length:Int)<=9223372036854775807:=by have:=hr0.2.1;omega
 go_enter Tryd.func102,Tryd.ntmps102
 go_wp2_with fail
 refine (index_long A0 c0 l0 w hr0 hb).mono ?_
 rintro e1 w1 ⟨i,rfl,hi,rfl⟩
 go_wp2_with fail
 go_ret
 exact ⟨by rw [<-hi];rfl,⟨0,rfl⟩⟩
theorem IsBytes.V {w:World} {g t e n base:Nat} {xs:List Int} (h:IsBytes w g t xs) (hb:base<=g) (hn:xs.length=n) (hm:n<=9223372036854775807):Kd.V (Kd.int .u8) e w base (fun k_=>base<=k_) (.slice (some ⟨g,0,none⟩) n n) xs:=by
 subst hn
 refine Kd.V_mk (Nat.le_refl _) ?_
 intro W' hW
 have h2:IsBytes W' g t xs:=(hW g hb h.lt).trans h
 have:=h2.C (o:=0) (n:=xs.length) (by omega) hm
 simpa using this
def numRun:Nat->Int->List Int->List Int
 | 0,_,ys=>ys
 | i+1,x,ys=>numRun i (x/256) (ys.set i (x%256))
def numBytes (n:Int):List Int:=numRun 8 n (List.replicate 8 0)
def texts_Number.f (a0:Int):Option (List Int):=some (numBytes a0)
set_option maxHeartbeats 1000000 in
set_option maxRecDepth 100000 in
theorem texts_Number.calls (a0:Int) (r:List Int) (w:World) (h:texts_Number.f a0=some r):
 Calls Tryd.prog 94 #[.int .i64 a0] w fun e w'=>∃v0_:Value,e = .returned (v0_)/\Kd.V (Kd.int .u8) 5 w' w.heap.size (fun k_=>w.heap.size<=k_) v0_ r/\Below w.heap.size w w':=by
 obtain rfl:=Option.some.inj h
 clear h
 go_enter Tryd.func94,Tryd.ntmps94
 go_wp2_with fail
 obtain ⟨g,hg⟩ : ∃g,g=w.heap.size:=⟨_,rfl⟩
 rw [<-hg]
 have HG:=z_ hg
 have hge:w.heap.size<=g:=by omega
 clear hg
 go_loopw [0,4] (fun v0 v4 wr=>∃(i:Nat) (x:Int) (ys:List Int),i<=8/\v0 = .int .i64 x/\v4 = .int .i64 (i:Int)/\Aside0 (ys.length=8)/\Aside0 (numRun i x ys=numBytes a0)/\Aside0 (IsBytes wr g 142 ys)/\Aside0 (Below w.heap.size w wr)) (fun _ v4 _=>(intOf v4).toNat)
 case atStart=>exact ⟨8,a0,List.replicate 8 0,by omega,rfl,rfl,⟨by rfl⟩,⟨rfl⟩,⟨by rw [HG.out];exact heap_alloc_new w _⟩,⟨below_alloc (Below.refl _ _) _⟩⟩
 case round=>
  obtain ⟨i,x,ys,hi,rfl,rfl,HL,HT,HI,HB⟩:=hrel
  by_cases hi0:0<i
  ·have hd:decide ((0:Int)<(i:Int))=true:=by simp;omega
   obtain ⟨i,rfl⟩ : ∃j,i=j+1:=⟨i-1,by omega⟩
   have e1:((i+1:Nat):Int)-1=(i:Int):=by omega
   have e2:IntKind.i64.wrap (i:Int)=(i:Int):=by rw [IntKind.wrap_i64];omega
   have hi8:(i:Int)<8:=by omega
   have hc:=HI.out.cell i (by have:=HL.out;omega)
   have hf:=HI.out.frozen i
   go_wp2_with fail
   refine ⟨⟨i,x/256,ys.set i (x%256),by omega,rfl,rfl,⟨by rw [List.length_set];exact HL.out⟩,⟨HT.out⟩,⟨HI.out.set i _⟩,⟨HB.out.setCell (by show w.heap.size<=g;exact hge) _⟩⟩,by simp only [intOf];omega⟩
  ·obtain rfl:i=0:=by omega
   have hd:decide ((0:Int)<((0:Nat):Int))=false:=by decide
   go_wp2_with fail
   go_ret
   exact ⟨_,rfl,by rw [<-HT.out];exact HI.out.V hge HL.out (by decide),HB.out⟩
def slices_Clone_byte_byte.f (l0:List Int):Option (List Int):=if l0.length<140737488355328 then some l0 else none
set_option maxHeartbeats 1000000 in
set_option maxRecDepth 100000 in
theorem slices_Clone_byte_byte.calls (A0:Option Addr) (c0:Nat) (l0:List Int) (r:List Int) (w:World) (hr0:Kd.C (Kd.int .u8) w A0 l0.length l0) (hc0:l0.length<=c0) (h:slices_Clone_byte_byte.f l0=some r):
 Calls Tryd.prog 52 #[.slice A0 l0.length c0] w fun e w'=>∃v0_:Value,e = .returned (v0_)/\Kd.R (Kd.int .u8) 5 w' w.heap.size (fun _=>True) v0_ r/\Below w.heap.size w w':=by
 unfold slices_Clone_byte_byte.f at h
 split at h
 case isFalse=>cases h
 case isTrue hb=>
  obtain rfl:=Option.some.inj h
  have HR:=z_ hr0
  clear h
  cases A0 with
  | none=>
    have h0:l0.length=0:=by
     by_cases h:0<l0.length
     ·obtain ⟨ad,e,_⟩:=(Kd.reads_of_C (d:=(0:Int)) hr0).2.2 h
      cases e
     ·omega
    obtain rfl:=List.eq_nil_of_length_eq_zero h0
    clear hr0
    have hnil : ∀W:World,(binOp .eql 31 (.slice none 0 c0) (.slice none 0 0)).run Tryd.prog W = .ok (.bool true) W:=fun _=>by kernel_rfl
    go_enter Tryd.func52,Tryd.ntmps52
    go_wp2_with fail
    go_ret
    exact ⟨_,rfl,Kd.R_nil _ _ _ _ _,Below.refl _ _⟩
  | some ad=>
    clear hr0
    have hnil : ∀W:World,(binOp .eql 31 (.slice (some ad) l0.length c0) (.slice none 0 0)).run Tryd.prog W = .ok (.bool false) W:=fun _=>by kernel_rfl
    go_enter Tryd.func52,Tryd.ntmps52
    go_wp2_with (first|((with_reducible refine gate_dst (N:=5) rfl ?_);refine Kd.R_lit (Kd.int .u8) _ 5 ?hg (N:=5) ?hd (xs:=([]:List Int)) (inner:=[]) (ok:=fun _=>True) (okp:=fun _=>True) ?hr ?hp (fun _ hk=>hk) trivial (Below.refl _ _) (Nat.le_refl _) (by simp) ?_;(case hd=>rfl);(case hg=>rfl);(case hr=>first|(go_simp;done)|(go_simp;rfl));(case hp=>exact (Reps.none _ _));intro v1 w1 ho1 hb1 hg1 hn1;have HO1:=z_ ho1;have HB1:=z_ hb1;clear ho1 hb1 hg1 hn1)|((with_reducible refine gate_builtin (b:=.append) (xs:=#[.tmp 5,.tmp 6]) rfl ?_);at_builtin;refine Kd.R_append_rows (Kd.int .u8) (w0:=w) w.heap.size rfl (.tmp 5) (.tmp 6) 31 5 (.int .u8 0) 1 rfl Tryd.underlying31 info5 rfl (by decide) (by omega) v1 [] l0 _ _ _ (fun _=>True) (fun _=>False) rfl rfl ?aO ?aR (fun _ _ h=>h) (fun _ h=>h.elim) ?aF ?aB ?aS ?aL ?_;(case aR=>exact Kd.C_below HR.out HB1.out);(case aB=>exact HB1.out);(case aF=>exact (fun _ _=>trivial));(case aO=>exact HO1.out);(case aS=>exact HB1.out.size);(case aL=>simp;omega);intro v2 w2 ho hb2 hg hat;have HO2:=z_ ho;have HB2:=z_ hb2;clear ho hb2 hg hat))
    go_ret
    exact ⟨_,rfl,HO2.out,HB2.out⟩
end Go.Proofs.YtdeneoknjeegbaaDoor.P
end
