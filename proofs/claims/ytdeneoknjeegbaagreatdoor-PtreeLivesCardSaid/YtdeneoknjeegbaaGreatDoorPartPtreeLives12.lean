/- Lemmas of this claim, part 12. -/
import Derived.Test.YtdeneoknjeegbaaGreatDoorPartPtreeLives10
import Derived.Outline
import Derived.Deep.LoopGhost
import Derived.Test.YtdeneoknjeegbaaGreatDoorPartPtreeLives2
set_option linter.unusedVariables false
set_option linter.unusedSimpArgs false
section
namespace Go.Proofs.YtdeneoknjeegbaaGreatDoor.P
open Go.RowKit YtdeneoknjeegbaaGreatDoor.Pure YtdeneoknjeegbaaGreatDoorW.PrintWords YtdeneoknjeegbaaGreatDoorW.PrintLast YtdeneoknjeegbaaGreatDoorW.PrintMore
structure ForksM (w:World) (base:Nat) (v:Value) (Z:Nat->Prop) (fs:List Nd):Prop where
 mem : ∃rows,RowsR w base v rows/\rows.length=fs.length/\∀(i:Nat) (n:Nd) (r:List Value),fs[i]? = some n->rows[i]? = some r->RowOf w Z n r
 sep : ∀k,Z k->k<w.heap.size/\some k≠v.ownBlock
theorem ForksM.below {w w1:World} {base:Nat} {v:Value} {Z:Nat->Prop} {fs:List Nd} (h:ForksM w base v Z fs) (hb:Below w.heap.size w w1):ForksM w1 base v Z fs:=by
 obtain ⟨rows,hR,hl,hr⟩:=h.mem
 exact ⟨⟨rows,Kd.R_below hR hb,hl,fun i n r hi hj=>(hr i n r hi hj).step (fun k hk hlt=>hb.block k hlt) (fun _ hk=>hk)⟩,fun k hk=>⟨Nat.lt_of_lt_of_le (h.sep k hk).1 hb.size,(h.sep k hk).2⟩⟩
theorem ForksM.step {w w1:World} {base:Nat} {v:Value} {Z:Nat->Prop} {fs:List Nd} (h:ForksM w base v Z fs) (hs:w.heap.size<=w1.heap.size) (hk : ∀k,k<w.heap.size->Z k\/some k=v.ownBlock->w1.heap[k]? = w.heap[k]?):ForksM w1 base v Z fs:=by
 obtain ⟨rows,hR,hl,hr⟩:=h.mem
 exact ⟨⟨rows,Kd.R_mono (Kd.R_step (Kd.R_reok (ok:=fun x=>some x=v.ownBlock) rfl hR (fun x e=>e.symm)) (fun k hx hlt=>hk k hlt (.inr hx))) (fun _ _=>trivial),hl,fun i n r hi hj=>(hr i n r hi hj).step (fun k hx hlt=>hk k hlt (.inl hx)) (fun _ hx=>hx)⟩,fun k hx=>⟨Nat.lt_of_lt_of_le (h.sep k hx).1 hs,(h.sep k hx).2⟩⟩
theorem ForksM.grow {w w1:World} {base:Nat} {v:Value} {X Z:Nat->Prop} {fs:List Nd} (h:ForksM w base v Z fs) (hb:Below w.heap.size w w1) (hX : ∀k,X k->k<base) (hbw:base<=w.heap.size):ForksM w1 base v (fun k=>Z k\/((X k\/w.heap.size<=k)/\k<w1.heap.size)) fs:=by
 obtain ⟨rows,hR,hl,hr⟩:=h.mem
 refine ⟨⟨rows,Kd.R_below hR hb,hl,fun i n r hi hj=>(hr i n r hi hj).step (fun k hk hlt=>hb.block k hlt) (fun _ hk=>.inl hk)⟩,fun k hk=>?_⟩
 rcases hk with hk|⟨hk,hlt⟩
 ·exact ⟨Nat.lt_of_lt_of_le (h.sep k hk).1 hb.size,(h.sep k hk).2⟩
 ·refine ⟨hlt,fun he=>?_⟩
  have h1:=Kd.R_base hR k he.symm
  have h2:=Kd.R_lt hR k he.symm
  rcases hk with hk|hk
  ·have:=hX k hk
   omega
  ·omega
theorem ForksM.nil (w:World) (base:Nat):ForksM w base (.slice none 0 0) (fun _=>False) []:=
 ⟨⟨[],Kd.R_nil _ _ _ _ _,rfl,fun i n r h=>by simp at h⟩,fun k h=>h.elim⟩
def SpB (w:World) (g:Nat) (r:List Value):Prop:=w.heap[g]? = some (.cells r.toArray 61 (0,0))
theorem SpB.below {w w1:World} {g:Nat} {r:List Value} (h:SpB w g r) (hb:Below w.heap.size w w1):SpB w1 g r:=blk_below h hb
theorem SpB.cells {w:World} {g:Nat} {y0 y1 y2 y3 y4 y5 y6 y7 y8 y9 y10 y11 y12:Value} (h:SpB w g [y0,y1,y2,y3,y4,y5,y6,y7,y8,y9,y10,y11,y12]):w.cell? ⟨g,0,none⟩=some y0/\w.cell? ⟨g,1,none⟩=some y1/\w.cell? ⟨g,2,none⟩=some y2/\w.cell? ⟨g,3,none⟩=some y3/\w.cell? ⟨g,4,none⟩=some y4/\w.cell? ⟨g,5,none⟩=some y5/\w.cell? ⟨g,6,none⟩=some y6/\w.cell? ⟨g,7,none⟩=some y7/\w.cell? ⟨g,8,none⟩=some y8/\w.cell? ⟨g,9,none⟩=some y9/\w.cell? ⟨g,10,none⟩=some y10/\w.cell? ⟨g,11,none⟩=some y11/\w.cell? ⟨g,12,none⟩=some y12:=
 ⟨blk_cell h 0,blk_cell h 1,blk_cell h 2,blk_cell h 3,blk_cell h 4,blk_cell h 5,blk_cell h 6,blk_cell h 7,blk_cell h 8,blk_cell h 9,blk_cell h 10,blk_cell h 11,blk_cell h 12⟩
theorem SpB.frozen {w:World} {g:Nat} {r:List Value} (h:SpB w g r):w.frozen? ⟨g,0,none⟩=false/\w.frozen? ⟨g,1,none⟩=false/\w.frozen? ⟨g,2,none⟩=false/\w.frozen? ⟨g,3,none⟩=false/\w.frozen? ⟨g,4,none⟩=false/\w.frozen? ⟨g,5,none⟩=false/\w.frozen? ⟨g,6,none⟩=false/\w.frozen? ⟨g,7,none⟩=false/\w.frozen? ⟨g,8,none⟩=false/\w.frozen? ⟨g,9,none⟩=false/\w.frozen? ⟨g,10,none⟩=false/\w.frozen? ⟨g,11,none⟩=false/\w.frozen? ⟨g,12,none⟩=false:=
 ⟨blk_frozen h 0,blk_frozen h 1,blk_frozen h 2,blk_frozen h 3,blk_frozen h 4,blk_frozen h 5,blk_frozen h 6,blk_frozen h 7,blk_frozen h 8,blk_frozen h 9,blk_frozen h 10,blk_frozen h 11,blk_frozen h 12⟩
def putS (w:World) (g:Nat) (x0 x1 x2 x3 x4 x5 x6 x7 x8 x9 x10 x11 x12:Value):World:=(((((((((((((w.setCell ⟨g,0,none⟩ x0).setCell ⟨g,1,none⟩ x1).setCell ⟨g,2,none⟩ x2).setCell ⟨g,3,none⟩ x3).setCell ⟨g,4,none⟩ x4).setCell ⟨g,5,none⟩ x5).setCell ⟨g,6,none⟩ x6).setCell ⟨g,7,none⟩ x7).setCell ⟨g,8,none⟩ x8).setCell ⟨g,9,none⟩ x9).setCell ⟨g,10,none⟩ x10).setCell ⟨g,11,none⟩ x11).setCell ⟨g,12,none⟩ x12)
theorem putS_nd {w:World} {g:Nat} {y0 y1 y2 y3 y4 y5 y6 y7 y8 y9 y10 y11 y12:Value} (h:SpB w g [y0,y1,y2,y3,y4,y5,y6,y7,y8,y9,y10,y11,y12]) (x0 x1 x2 x3 x4 x5 x6 x7 x8 x9 x10 x11 x12:Value):SpB (putS w g x0 x1 x2 x3 x4 x5 x6 x7 x8 x9 x10 x11 x12) g [x0,x1,x2,x3,x4,x5,x6,x7,x8,x9,x10,x11,x12]:=by
 have h1:SpB (w.setCell ⟨g,0,none⟩ x0) g [x0,y1,y2,y3,y4,y5,y6,y7,y8,y9,y10,y11,y12]:=blk_set h 0 _
 have h2:SpB ((w.setCell ⟨g,0,none⟩ x0).setCell ⟨g,1,none⟩ x1) g [x0,x1,y2,y3,y4,y5,y6,y7,y8,y9,y10,y11,y12]:=blk_set h1 1 _
 have h3:SpB (((w.setCell ⟨g,0,none⟩ x0).setCell ⟨g,1,none⟩ x1).setCell ⟨g,2,none⟩ x2) g [x0,x1,x2,y3,y4,y5,y6,y7,y8,y9,y10,y11,y12]:=blk_set h2 2 _
 have h4:SpB ((((w.setCell ⟨g,0,none⟩ x0).setCell ⟨g,1,none⟩ x1).setCell ⟨g,2,none⟩ x2).setCell ⟨g,3,none⟩ x3) g [x0,x1,x2,x3,y4,y5,y6,y7,y8,y9,y10,y11,y12]:=blk_set h3 3 _
 have h5:SpB (((((w.setCell ⟨g,0,none⟩ x0).setCell ⟨g,1,none⟩ x1).setCell ⟨g,2,none⟩ x2).setCell ⟨g,3,none⟩ x3).setCell ⟨g,4,none⟩ x4) g [x0,x1,x2,x3,x4,y5,y6,y7,y8,y9,y10,y11,y12]:=blk_set h4 4 _
 have h6:SpB ((((((w.setCell ⟨g,0,none⟩ x0).setCell ⟨g,1,none⟩ x1).setCell ⟨g,2,none⟩ x2).setCell ⟨g,3,none⟩ x3).setCell ⟨g,4,none⟩ x4).setCell ⟨g,5,none⟩ x5) g [x0,x1,x2,x3,x4,x5,y6,y7,y8,y9,y10,y11,y12]:=blk_set h5 5 _
 have h7:SpB (((((((w.setCell ⟨g,0,none⟩ x0).setCell ⟨g,1,none⟩ x1).setCell ⟨g,2,none⟩ x2).setCell ⟨g,3,none⟩ x3).setCell ⟨g,4,none⟩ x4).setCell ⟨g,5,none⟩ x5).setCell ⟨g,6,none⟩ x6) g [x0,x1,x2,x3,x4,x5,x6,y7,y8,y9,y10,y11,y12]:=blk_set h6 6 _
 have h8:SpB ((((((((w.setCell ⟨g,0,none⟩ x0).setCell ⟨g,1,none⟩ x1).setCell ⟨g,2,none⟩ x2).setCell ⟨g,3,none⟩ x3).setCell ⟨g,4,none⟩ x4).setCell ⟨g,5,none⟩ x5).setCell ⟨g,6,none⟩ x6).setCell ⟨g,7,none⟩ x7) g [x0,x1,x2,x3,x4,x5,x6,x7,y8,y9,y10,y11,y12]:=blk_set h7 7 _
 have h9:SpB (((((((((w.setCell ⟨g,0,none⟩ x0).setCell ⟨g,1,none⟩ x1).setCell ⟨g,2,none⟩ x2).setCell ⟨g,3,none⟩ x3).setCell ⟨g,4,none⟩ x4).setCell ⟨g,5,none⟩ x5).setCell ⟨g,6,none⟩ x6).setCell ⟨g,7,none⟩ x7).setCell ⟨g,8,none⟩ x8) g [x0,x1,x2,x3,x4,x5,x6,x7,x8,y9,y10,y11,y12]:=blk_set h8 8 _
 have h10:SpB ((((((((((w.setCell ⟨g,0,none⟩ x0).setCell ⟨g,1,none⟩ x1).setCell ⟨g,2,none⟩ x2).setCell ⟨g,3,none⟩ x3).setCell ⟨g,4,none⟩ x4).setCell ⟨g,5,none⟩ x5).setCell ⟨g,6,none⟩ x6).setCell ⟨g,7,none⟩ x7).setCell ⟨g,8,none⟩ x8).setCell ⟨g,9,none⟩ x9) g [x0,x1,x2,x3,x4,x5,x6,x7,x8,x9,y10,y11,y12]:=blk_set h9 9 _
 have h11:SpB (((((((((((w.setCell ⟨g,0,none⟩ x0).setCell ⟨g,1,none⟩ x1).setCell ⟨g,2,none⟩ x2).setCell ⟨g,3,none⟩ x3).setCell ⟨g,4,none⟩ x4).setCell ⟨g,5,none⟩ x5).setCell ⟨g,6,none⟩ x6).setCell ⟨g,7,none⟩ x7).setCell ⟨g,8,none⟩ x8).setCell ⟨g,9,none⟩ x9).setCell ⟨g,10,none⟩ x10) g [x0,x1,x2,x3,x4,x5,x6,x7,x8,x9,x10,y11,y12]:=blk_set h10 10 _
 have h12:SpB ((((((((((((w.setCell ⟨g,0,none⟩ x0).setCell ⟨g,1,none⟩ x1).setCell ⟨g,2,none⟩ x2).setCell ⟨g,3,none⟩ x3).setCell ⟨g,4,none⟩ x4).setCell ⟨g,5,none⟩ x5).setCell ⟨g,6,none⟩ x6).setCell ⟨g,7,none⟩ x7).setCell ⟨g,8,none⟩ x8).setCell ⟨g,9,none⟩ x9).setCell ⟨g,10,none⟩ x10).setCell ⟨g,11,none⟩ x11) g [x0,x1,x2,x3,x4,x5,x6,x7,x8,x9,x10,x11,y12]:=blk_set h11 11 _
 have h13:SpB (((((((((((((w.setCell ⟨g,0,none⟩ x0).setCell ⟨g,1,none⟩ x1).setCell ⟨g,2,none⟩ x2).setCell ⟨g,3,none⟩ x3).setCell ⟨g,4,none⟩ x4).setCell ⟨g,5,none⟩ x5).setCell ⟨g,6,none⟩ x6).setCell ⟨g,7,none⟩ x7).setCell ⟨g,8,none⟩ x8).setCell ⟨g,9,none⟩ x9).setCell ⟨g,10,none⟩ x10).setCell ⟨g,11,none⟩ x11).setCell ⟨g,12,none⟩ x12) g [x0,x1,x2,x3,x4,x5,x6,x7,x8,x9,x10,x11,x12]:=blk_set h12 12 _
 exact h13
theorem putS_below {w0 w:World} {g base:Nat} (h:Below base w0 w) (hg:base<=g) (x0 x1 x2 x3 x4 x5 x6 x7 x8 x9 x10 x11 x12:Value):Below base w0 (putS w g x0 x1 x2 x3 x4 x5 x6 x7 x8 x9 x10 x11 x12):=
 Below.setCell (Below.setCell (Below.setCell (Below.setCell (Below.setCell (Below.setCell (Below.setCell (Below.setCell (Below.setCell (Below.setCell (Below.setCell (Below.setCell (Below.setCell h hg _) hg _) hg _) hg _) hg _) hg _) hg _) hg _) hg _) hg _) hg _) hg _) hg _
theorem putS_far {w:World} {g k:Nat} (hne:k≠g) (x0 x1 x2 x3 x4 x5 x6 x7 x8 x9 x10 x11 x12:Value):(putS w g x0 x1 x2 x3 x4 x5 x6 x7 x8 x9 x10 x11 x12).heap[k]? = w.heap[k]? := by
 unfold putS
 rw [Below.heap_setCell _ ⟨g,12,none⟩ _ k hne,Below.heap_setCell _ ⟨g,11,none⟩ _ k hne,Below.heap_setCell _ ⟨g,10,none⟩ _ k hne,Below.heap_setCell _ ⟨g,9,none⟩ _ k hne,Below.heap_setCell _ ⟨g,8,none⟩ _ k hne,Below.heap_setCell _ ⟨g,7,none⟩ _ k hne,Below.heap_setCell _ ⟨g,6,none⟩ _ k hne,Below.heap_setCell _ ⟨g,5,none⟩ _ k hne,Below.heap_setCell _ ⟨g,4,none⟩ _ k hne,Below.heap_setCell _ ⟨g,3,none⟩ _ k hne,Below.heap_setCell _ ⟨g,2,none⟩ _ k hne,Below.heap_setCell _ ⟨g,1,none⟩ _ k hne,Below.heap_setCell _ ⟨g,0,none⟩ _ k hne]
theorem ForksM.ne {w:World} {base g:Nat} {v:Value} {Z:Nat->Prop} {fs:List Nd} {r:List Value} (h:ForksM w base v Z fs) (hb:SpB w g r):some g≠v.ownBlock:=by
 obtain ⟨rows,hR,_⟩:=h.mem
 exact Kd.R_ne hR hb (by decide)
def putM (w:World) (g:Nat) (x0 x1 x2 x3 x4 x5 x6 x7 x8 x9:Value):World:=((((((((((w.setCell ⟨g,2,none⟩ x0).setCell ⟨g,3,none⟩ x1).setCell ⟨g,4,none⟩ x2).setCell ⟨g,5,none⟩ x3).setCell ⟨g,6,none⟩ x4).setCell ⟨g,7,none⟩ x5).setCell ⟨g,8,none⟩ x6).setCell ⟨g,9,none⟩ x7).setCell ⟨g,10,none⟩ x8).setCell ⟨g,11,none⟩ x9)
theorem putM_sp {w:World} {g:Nat} {y0 y1 y2 y3 y4 y5 y6 y7 y8 y9 y10 y11 y12:Value} (h:SpB w g [y0,y1,y2,y3,y4,y5,y6,y7,y8,y9,y10,y11,y12]) (x0 x1 x2 x3 x4 x5 x6 x7 x8 x9:Value):SpB (putM w g x0 x1 x2 x3 x4 x5 x6 x7 x8 x9) g [y0,y1,x0,x1,x2,x3,x4,x5,x6,x7,x8,x9,y12]:=by
 have h1:SpB (w.setCell ⟨g,2,none⟩ x0) g [y0,y1,x0,y3,y4,y5,y6,y7,y8,y9,y10,y11,y12]:=blk_set h 2 _
 have h2:SpB ((w.setCell ⟨g,2,none⟩ x0).setCell ⟨g,3,none⟩ x1) g [y0,y1,x0,x1,y4,y5,y6,y7,y8,y9,y10,y11,y12]:=blk_set h1 3 _
 have h3:SpB (((w.setCell ⟨g,2,none⟩ x0).setCell ⟨g,3,none⟩ x1).setCell ⟨g,4,none⟩ x2) g [y0,y1,x0,x1,x2,y5,y6,y7,y8,y9,y10,y11,y12]:=blk_set h2 4 _
 have h4:SpB ((((w.setCell ⟨g,2,none⟩ x0).setCell ⟨g,3,none⟩ x1).setCell ⟨g,4,none⟩ x2).setCell ⟨g,5,none⟩ x3) g [y0,y1,x0,x1,x2,x3,y6,y7,y8,y9,y10,y11,y12]:=blk_set h3 5 _
 have h5:SpB (((((w.setCell ⟨g,2,none⟩ x0).setCell ⟨g,3,none⟩ x1).setCell ⟨g,4,none⟩ x2).setCell ⟨g,5,none⟩ x3).setCell ⟨g,6,none⟩ x4) g [y0,y1,x0,x1,x2,x3,x4,y7,y8,y9,y10,y11,y12]:=blk_set h4 6 _
 have h6:SpB ((((((w.setCell ⟨g,2,none⟩ x0).setCell ⟨g,3,none⟩ x1).setCell ⟨g,4,none⟩ x2).setCell ⟨g,5,none⟩ x3).setCell ⟨g,6,none⟩ x4).setCell ⟨g,7,none⟩ x5) g [y0,y1,x0,x1,x2,x3,x4,x5,y8,y9,y10,y11,y12]:=blk_set h5 7 _
 have h7:SpB (((((((w.setCell ⟨g,2,none⟩ x0).setCell ⟨g,3,none⟩ x1).setCell ⟨g,4,none⟩ x2).setCell ⟨g,5,none⟩ x3).setCell ⟨g,6,none⟩ x4).setCell ⟨g,7,none⟩ x5).setCell ⟨g,8,none⟩ x6) g [y0,y1,x0,x1,x2,x3,x4,x5,x6,y9,y10,y11,y12]:=blk_set h6 8 _
 have h8:SpB ((((((((w.setCell ⟨g,2,none⟩ x0).setCell ⟨g,3,none⟩ x1).setCell ⟨g,4,none⟩ x2).setCell ⟨g,5,none⟩ x3).setCell ⟨g,6,none⟩ x4).setCell ⟨g,7,none⟩ x5).setCell ⟨g,8,none⟩ x6).setCell ⟨g,9,none⟩ x7) g [y0,y1,x0,x1,x2,x3,x4,x5,x6,x7,y10,y11,y12]:=blk_set h7 9 _
 have h9:SpB (((((((((w.setCell ⟨g,2,none⟩ x0).setCell ⟨g,3,none⟩ x1).setCell ⟨g,4,none⟩ x2).setCell ⟨g,5,none⟩ x3).setCell ⟨g,6,none⟩ x4).setCell ⟨g,7,none⟩ x5).setCell ⟨g,8,none⟩ x6).setCell ⟨g,9,none⟩ x7).setCell ⟨g,10,none⟩ x8) g [y0,y1,x0,x1,x2,x3,x4,x5,x6,x7,x8,y11,y12]:=blk_set h8 10 _
 have h10:SpB ((((((((((w.setCell ⟨g,2,none⟩ x0).setCell ⟨g,3,none⟩ x1).setCell ⟨g,4,none⟩ x2).setCell ⟨g,5,none⟩ x3).setCell ⟨g,6,none⟩ x4).setCell ⟨g,7,none⟩ x5).setCell ⟨g,8,none⟩ x6).setCell ⟨g,9,none⟩ x7).setCell ⟨g,10,none⟩ x8).setCell ⟨g,11,none⟩ x9) g [y0,y1,x0,x1,x2,x3,x4,x5,x6,x7,x8,x9,y12]:=blk_set h9 11 _
 exact h10
theorem putM_below {w0 w:World} {g base:Nat} (h:Below base w0 w) (hg:base<=g) (x0 x1 x2 x3 x4 x5 x6 x7 x8 x9:Value):Below base w0 (putM w g x0 x1 x2 x3 x4 x5 x6 x7 x8 x9):=
 Below.setCell (Below.setCell (Below.setCell (Below.setCell (Below.setCell (Below.setCell (Below.setCell (Below.setCell (Below.setCell (Below.setCell h hg _) hg _) hg _) hg _) hg _) hg _) hg _) hg _) hg _) hg _
theorem putM_far {w:World} {g k:Nat} (hne:k≠g) (x0 x1 x2 x3 x4 x5 x6 x7 x8 x9:Value):(putM w g x0 x1 x2 x3 x4 x5 x6 x7 x8 x9).heap[k]? = w.heap[k]? := by
 unfold putM
 rw [Below.heap_setCell _ ⟨g,11,none⟩ _ k hne,Below.heap_setCell _ ⟨g,10,none⟩ _ k hne,Below.heap_setCell _ ⟨g,9,none⟩ _ k hne,Below.heap_setCell _ ⟨g,8,none⟩ _ k hne,Below.heap_setCell _ ⟨g,7,none⟩ _ k hne,Below.heap_setCell _ ⟨g,6,none⟩ _ k hne,Below.heap_setCell _ ⟨g,5,none⟩ _ k hne,Below.heap_setCell _ ⟨g,4,none⟩ _ k hne,Below.heap_setCell _ ⟨g,3,none⟩ _ k hne,Below.heap_setCell _ ⟨g,2,none⟩ _ k hne]
def zeroSp:List Value:=[.slice none 0 0,.int .i64 0,.bool false,.slice none 0 0,.slice none 0 0,.int .i64 0,.int .i64 0,.slice none 0 0,.int .i64 0,.int .i64 0,.int .i64 0,.slice none 0 0,.bool false]
def SpotV (w w':World) (X:Nat->Prop) (s:Spot) (e:Ending):Prop:=∃(vf:Value) (Z:Nat->Prop) (A1 A2 A5 A9:Option Addr) (c1 c2 c5 c9:Nat),
 e = .returned (.agg #[vf,.int .i64 s.at_,.bool s.node.f0,.slice A1 s.node.f1.length c1,.slice A2 s.node.f2.length c2,.int .i64 s.node.f3,.int .i64 s.node.f4,.slice A5 s.node.f5.length c5,.int .i64 s.node.f6,.int .i64 s.node.f7,.int .i64 s.node.f8,.slice A9 s.node.f9.length c9,.bool s.same])/\ForksM w' w.heap.size vf Z s.forks/\(∀k,Z k->X k\/w.heap.size<=k)/\
 BX w' Z (.slice A1 s.node.f1.length c1) s.node.f1/\BX w' Z (.slice A2 s.node.f2.length c2) s.node.f2/\BX w' Z (.slice A5 s.node.f5.length c5) s.node.f5/\BX w' Z (.slice A9 s.node.f9.length c9) s.node.f9
def find_T8:Bool×List (List Nat×List Nat):=(true,[([],[]),([],[]),([1],[1]),([2],[2]),([3],[3]),([4,3],[3,4]),([3],[3]),([5,6,3,3],[3,5,6]),([3,7],[3,7]),([0],[]),([9,0,7,0],[0,9]),([0,1,2,3,4,5,6,7,8,9,10],[]),([11,8,10,0,1,2,3,4,5,6,7,8,9,10],[8,11])])
def find_B8:List Nat:=[0,0,2,6,14,30,14,126,254,1,767,2047,4095]
theorem find_tab8:rtab .any (opsOf Tryz.f20 8)=find_T8:=by kernel_rfl
theorem find_bits8:waitsOk find_T8.2 find_B8=true:=by kernel_rfl
set_option maxRecDepth 100000 in
theorem results_find (W:World) (g:Nat) {y0 y1 y2 y3 y4 y5 y6 y7 y8 y9 y10 y11 y12:Value} (h:SpB W g [y0,y1,y2,y3,y4,y5,y6,y7,y8,y9,y10,y11,y12]) (tm:Array Value) (h6:tm[6]?.getD undef = .pointer (some ⟨g,0,none⟩)):(results Tryz.f20 tm).run Tryz.prog W = .ok (.agg #[y0,y1,y2,y3,y4,y5,y6,y7,y8,y9,y10,y11,y12]) W:=by
 obtain ⟨c0,c1,c2,c3,c4,c5,c6,c7,c8,c9,c10,c11,c12⟩:=h.cells
 simp [results,Tryz.results20,go_sem,h6,c0,c1,c2,c3,c4,c5,c6,c7,c8,c9,c10,c11,c12]
def Spot.pre (fs:List Nd) (s:Spot):Spot:=⟨fs++s.forks,s.at_,s.node,s.same⟩
set_option maxHeartbeats 8000000 in
set_option maxRecDepth 100000 in
theorem find_calls {w:World} {base p:Nat} {size room:Int} {vc vf:Value} {X:Nat->Prop} {cs:Cs} (h:ArenaM w base p size room vc vf X cs) (hcs:CsOk cs) (root:Int) (A:Option Addr) (c:Nat) (id:List Int) (hid:Kd.C (Kd.int .u8) w A id.length id) (hc:id.length<=c) (ho:BytesOk id) (hos : ∀n,some n∈cs->BytesOk n.f1) (t0:Option PT) (ht0:IsO cs root t0) (hh:heightO t0<=100000):
 Calls Tryz.prog 20 #[.pointer (some ⟨p,0,none⟩),.int .i64 root,.slice A id.length c] w fun e w'=>SpotV w w' X (findO (keyB id) id root t0) e/\Below w.heap.size w w':=by
 have HA:=z_ h
 have HCS:=z_ hcs
 have HID:=z_ hid
 have HC:=z_ hc
 have HO:=z_ ho
 have HOS:=z_ hos
 have HT0:=z_ ht0
 have HH:=z_ hh
 clear hh h hcs hid hc ho hos ht0
 go_enter Tryz.func20,Tryz.ntmps20
 go_wp2_with fail
 obtain ⟨w1,hw1⟩ : ∃w1,w1=w.alloc (.cells #[.slice none 0 0,.int .i64 0,.bool false,.slice none 0 0,.slice none 0 0,.int .i64 0,.int .i64 0,.slice none 0 0,.int .i64 0,.int .i64 0,.int .i64 0,.slice none 0 0,.bool false] 61):=⟨_,rfl⟩
 rw [<-hw1]
 have HB1:=z_ (show Below w.heap.size w w1 from by rw [hw1];exact below_alloc (Below.refl _ _) _)
 have HG6:=z_ (show SpB w1 w.heap.size zeroSp from by rw [hw1];exact heap_alloc_new w _)
 clear hw1
 refine (key_calls A c id w1 (Kd.C_below HID.out HB1.out) HC.out).mono ?_
 rintro e w2 ⟨v,rfl,hR,hb⟩
 obtain ⟨Ak,ck,rfl⟩:=Kd.R_slice hR
 obtain ⟨row,hrow⟩ : ∃row,row=keyB id:=⟨_,rfl⟩
 rw [<-hrow] at hR
 rw [<-hrow]
 have HRW:=z_ hrow
 obtain ⟨nr,hnr⟩ : ∃nr,nr=row.length:=⟨_,rfl⟩
 rw [<-hnr] at hR
 rw [<-hnr]
 have HNR:=z_ hnr
 have HK2:=z_ (show Kd.R (Kd.int .u8) 5 w2 w.heap.size (fun _=>True) (.slice Ak nr ck) row/\row.length<=ck from ⟨Kd.R_lower hR HB1.out.size,by have:=(Kd.R_reads' hR).2.1;omega⟩)
 have HB2:=z_ (below_step HB1.out hb)
 have HG62:=z_ (HG6.out.below hb)
 clear hR hb hrow hnr HG6 HB1
 go_wp2_with fail
 obtain ⟨w3,hw3⟩ : ∃w3,w3=w2.alloc (.cells #[.slice none 0 0,.int .i64 root,.bool false,.slice none 0 0,.slice none 0 0,.int .i64 0,.int .i64 0,.slice none 0 0,.int .i64 0,.int .i64 0,.int .i64 0,.slice none 0 0,.bool false] 61):=⟨_,rfl⟩
 rw [<-hw3]
 have HB3:=z_ (show Below w.heap.size w w3 from below_step HB2.out (by rw [hw3];exact below_alloc (Below.refl _ _) _))
 have HG63:=z_ (show SpB w3 w.heap.size zeroSp from HG62.out.below (by rw [hw3];exact below_alloc (Below.refl _ _) _))
 have HG83:=z_ (show SpB w3 w2.heap.size [.slice none 0 0,.int .i64 root,.bool false,.slice none 0 0,.slice none 0 0,.int .i64 0,.int .i64 0,.slice none 0 0,.int .i64 0,.int .i64 0,.int .i64 0,.slice none 0 0,.bool false] from by rw [hw3];exact heap_alloc_new w2 _)
 have HK3:=z_ (show Kd.R (Kd.int .u8) 5 w3 w.heap.size (fun _=>True) (.slice Ak nr ck) row/\row.length<=ck from ⟨Kd.R_below HK2.out.1 (by rw [hw3];exact below_alloc (Below.refl _ _) _),HK2.out.2⟩)
 obtain ⟨g8,hg8⟩ : ∃g8,g8=w2.heap.size:=⟨_,rfl⟩
 obtain ⟨g6,hg6⟩ : ∃g6,g6=w.heap.size:=⟨_,rfl⟩
 have HGG:=z_ (show g6=w.heap.size/\w.heap.size<g8/\g8<w3.heap.size from ⟨hg6,by have:=HG62.out;have:=blk_lt HG62.out;omega,by rw [hg8];exact blk_lt HG83.out⟩)
 rw [<-hg8] at HG83
 rw [<-hg6] at HG63
 rw [<-hg8,<-hg6]
 clear hw3 hg8 hg6 HB2 HG62 HK2
 go_loopg [10] (heightO t0+1) (fun kq v10 wr=>∃(i:Int) (t:Option PT) (An:Option Addr) (fn cn:Nat) (fs:List Nd) (Z:Nat->Prop),Aside0 (SpB wr g8 [.slice An fn cn,.int .i64 i,.bool false,.slice none 0 0,.slice none 0 0,.int .i64 0,.int .i64 0,.slice none 0 0,.int .i64 0,.int .i64 0,.int .i64 0,.slice none 0 0,.bool false])/\Aside0 (SpB wr g6 zeroSp)/\Aside0 (ForksM wr w.heap.size (.slice An fn cn) Z fs/\∀k,Z k->(X k\/w.heap.size<=k)/\k≠g8/\k≠g6)/\Aside0 (IsO cs i t/\heightO t<kq/\fs.length+heightO t<=heightO t0/\findO row id root t0=(findO row id i t).pre fs)/\Aside0 (Below w.heap.size w wr/\w3.heap.size<=wr.heap.size/\Kd.R (Kd.int .u8) 5 wr w.heap.size (fun _=>True) (.slice Ak nr ck) row))
 case atStart=>exact ⟨root,t0,none,0,0,[],fun _=>False,HG83,HG63,⟨ForksM.nil _ _,fun k h=>h.elim⟩,⟨HT0.out,Nat.lt_succ_self _,by simp,rfl⟩,⟨HB3.out,Nat.le_refl _,HK3.out.1⟩⟩
 case round=>
  obtain ⟨i,t,An,fn,cn,fs,Z,HG8,HG6,HF,HT,HB⟩:=hrel
  obtain ⟨k1,hk1⟩ : ∃k1,gk=k1+1:=⟨gk-1,by have:=HT.out.2.1;omega⟩
  subst hk1
  obtain ⟨q0,q1,q2,q3,q4,q5,q6,q7,q8,q9,q10,q11,q12⟩:=HG8.out.cells
  go_wp2_with fail
  refine (nodeA_calls (HA.out.below HB.out.1) i (fun n hn=>(HCS.out.at i n hn).1)).mono ?_
  rintro e w4 ⟨hN,hb⟩
  clear q0 q1 q2 q3 q4 q5 q6 q7 q8 q9 q10 q11 q12
  have HB4:=z_ hb
  cases t with
  | none=>
    rw [show nodeAt cs i=none from HT.out.1] at hN
    obtain rfl:e = .returned (.tuple #[.agg zeroR.toArray,.bool false]):=hN
    unfold zeroR
    have h8:=(HG8.out.below hb).below (below_alloc (Below.refl _ _) (.cells #[.bool false,.slice none 0 0,.slice none 0 0,.int .i64 0,.int .i64 0,.slice none 0 0,.int .i64 0,.int .i64 0,.int .i64 0,.slice none 0 0] 59))
    have h6:=(HG6.out.below hb).below (below_alloc (Below.refl _ _) (.cells #[.bool false,.slice none 0 0,.slice none 0 0,.int .i64 0,.int .i64 0,.slice none 0 0,.int .i64 0,.int .i64 0,.int .i64 0,.slice none 0 0] 59))
    obtain ⟨s0,s1,s2,s3,s4,s5,s6,s7,s8,s9,s10,s11,s12⟩:=h8.cells
    obtain ⟨f0,f1,f2,f3,f4,f5,f6,f7,f8,f9,f10,f11,f12⟩:=h8.frozen
    unfold zeroSp at h6
    obtain ⟨t0_,t1,t2,t3,t4,t5,t6,t7,t8,t9,t10,t11,t12⟩:=h6.cells
    obtain ⟨e0,e1,e2,e3,e4,e5,e6,e7,e8,e9,e10,e11,e12⟩:=h6.frozen
    have hne:g6≠g8:=by have:=HGG.out;omega
    have hne2:g8≠g6:=hne.symm
    have H6:=z_ h6
    clear hb h8 h6
    go_wp2_with fail
    obtain ⟨w5,hw5⟩ : ∃w5,w5=w4.alloc (.cells #[.bool false,.slice none 0 0,.slice none 0 0,.int .i64 0,.int .i64 0,.slice none 0 0,.int .i64 0,.int .i64 0,.int .i64 0,.slice none 0 0] 59):=⟨_,rfl⟩
    rw [<-hw5] at H6
    rw [<-hw5]
    have hb5:Below w4.heap.size w4 w5:=by rw [hw5];exact below_alloc (Below.refl _ _) _
    have hF5:=(HF.out.1.below HB4.out).below hb5
    have hlow:Below w.heap.size w w5:=below_step (below_step HB.out.1 HB4.out) hb5
    have hn8:=HF.out.1.ne HG8.out
    have hn6:=HF.out.1.ne HG6.out
    clear hw5 s0 s1 s2 s3 s4 s5 s6 s7 s8 s9 s10 s11 s12 t0_ t1 t2 t3 t4 t5 t6 t7 t8 t9 t10 t11 t12 e0 e1 e2 e3 e4 e5 e6 e7 e8 e9 e10 e11 e12 f0 f1 f2 f3 f4 f5 f6 f7 f8 f9 f10 f11 f12
    have h66:SpB (w5.setCell ⟨g8,1,none⟩ (.int .i64 (-1))) g6 [.slice none 0 0,.int .i64 0,.bool false,.slice none 0 0,.slice none 0 0,.int .i64 0,.int .i64 0,.slice none 0 0,.int .i64 0,.int .i64 0,.int .i64 0,.slice none 0 0,.bool false]:=(Below.heap_setCell _ ⟨g8,1,none⟩ _ g6 hne).trans H6.out
    refine bodyPost_ret (results_find _ g6 (putS_nd h66 (.slice An fn cn) (.int .i64 (-1)) (.bool false) (.slice none 0 0) (.slice none 0 0) (.int .i64 0) (.int .i64 0) (.slice none 0 0) (.int .i64 0) (.int .i64 0) (.int .i64 0) (.slice none 0 0) (.bool false)) _ rfl) rfl ⟨?_,putS_below (Below.setCell hlow (by have:=HGG.out;show w.heap.size<=g8;omega) _) (by have:=HGG.out;omega) _ _ _ _ _ _ _ _ _ _ _ _ _⟩
    rw [<-HRW.out,HT.out.2.2.2]
    refine ⟨.slice An fn cn,Z,none,none,none,none,0,0,0,0,rfl,?_,fun k hk=>(HF.out.2 k hk).1,Kd.V_nil _ _ _ _ _,Kd.V_nil _ _ _ _ _,Kd.V_nil _ _ _ _ _,Kd.V_nil _ _ _ _ _⟩
    have hF6:ForksM _ w.heap.size (.slice An fn cn) Z fs:=hF5.step (w1:=putS (w5.setCell ⟨g8,1,none⟩ (.int .i64 (-1))) g6 (.slice An fn cn) (.int .i64 (-1)) (.bool false) (.slice none 0 0) (.slice none 0 0) (.int .i64 0) (.int .i64 0) (.slice none 0 0) (.int .i64 0) (.int .i64 0) (.int .i64 0) (.slice none 0 0) (.bool false)) (by have:=(putS_below (Below.setCell (Below.refl 0 w5) (Nat.zero_le g8) (p:=⟨g8,1,none⟩) (.int .i64 (-1))) (Nat.zero_le g6) (.slice An fn cn) (.int .i64 (-1)) (.bool false) (.slice none 0 0) (.slice none 0 0) (.int .i64 0) (.int .i64 0) (.slice none 0 0) (.int .i64 0) (.int .i64 0) (.int .i64 0) (.slice none 0 0) (.bool false)).size;exact this) (fun k hl hk=>by
     have h8:k≠g8:=by rintro rfl;rcases hk with hk|hk;exact (HF.out.2 _ hk).2.1 rfl;exact hn8 hk
     have h6:k≠g6:=by rintro rfl;rcases hk with hk|hk;exact (HF.out.2 _ hk).2.2 rfl;exact hn6 hk
     rw [putS_far h6,Below.heap_setCell _ ⟨g8,1,none⟩ _ k h8])
    have he:((findO row id i none).pre fs).forks=fs:=by simp [Spot.pre,findO]
    rw [he]
    exact hF6
  | some t=>
    have hat : ∃n,nodeAt cs i=some n:=by
     have:=HT.out.1
     cases t with
     | leaf n=>exact ⟨n,this.1⟩
     | fork n l r=>exact ⟨n,this.1⟩
    obtain ⟨n,hn⟩:=hat
    have HNA:=z_ hn
    rw [hn] at hN
    obtain ⟨D1,D2,D5,D9,d1,d2,d5,d9,rfl,x1,x2,x5,x9⟩:=hN
    have HV1:=z_ (Kd.V_mono (Kd.V_bound x1) (fun k hk=>(Or.inr hk:Z k\/((X k\/wr.heap.size<=k)/\k<w4.heap.size))))
    have HV2:=z_ (Kd.V_mono (Kd.V_bound x2) (fun k hk=>(Or.inr hk:Z k\/((X k\/wr.heap.size<=k)/\k<w4.heap.size))))
    have HV5:=z_ (Kd.V_mono (Kd.V_bound x5) (fun k hk=>(Or.inr hk:Z k\/((X k\/wr.heap.size<=k)/\k<w4.heap.size))))
    have HV9:=z_ (Kd.V_mono (Kd.V_bound x9) (fun k hk=>(Or.inr hk:Z k\/((X k\/wr.heap.size<=k)/\k<w4.heap.size))))
    have HXlt:=z_ (show ∀k,X k->k<w.heap.size from fun k hk=>(HA.out.sep k hk).1)
    have HF4:=z_ (HF.out.1.grow hb HXlt.out HB.out.1.size)
    have HZ4:=z_ (show ∀k,(Z k\/((X k\/wr.heap.size<=k)/\k<w4.heap.size))->(X k\/w.heap.size<=k)/\k≠g8/\k≠g6 from fun k hk=>by
     have h1:=HGG.out
     have h2:=HB.out.2.1
     rcases hk with hk|⟨hk|hk,_⟩
     ·exact HF.out.2 k hk
     ·have:=HXlt.out k hk
      exact ⟨.inl hk,by omega,by omega⟩
     ·exact ⟨.inr (by omega),by omega,by omega⟩)
    obtain ⟨Z4,hZ4⟩ : ∃Z4:Nat->Prop,Z4=fun k=>Z k\/((X k\/wr.heap.size<=k)/\k<w4.heap.size):=⟨_,rfl⟩
    rw [<-hZ4] at HV1 HV2 HV5 HV9 HF4
    replace HZ4:=z_ (show ∀k,Z4 k->(X k\/w.heap.size<=k)/\k≠g8/\k≠g6 from by rw [hZ4];exact HZ4.out)
    clear hZ4 x1 x2 x5 x9 hn hb
    obtain ⟨b0,hb0⟩ : ∃b0,n.f0=b0:=⟨_,rfl⟩
    rw [hb0]
    have HB0:=z_ hb0
    clear hb0
    obtain ⟨w5,hw5⟩ : ∃w5,w5=w4.alloc (.cells #[.bool b0,.slice D1 n.f1.length d1,.slice D2 n.f2.length d2,.int .i64 n.f3,.int .i64 n.f4,.slice D5 n.f5.length d5,.int .i64 n.f6,.int .i64 n.f7,.int .i64 n.f8,.slice D9 n.f9.length d9] 59):=⟨_,rfl⟩
    have HB5:=z_ (show Below w4.heap.size w4 w5 from by rw [hw5];exact below_alloc (Below.refl _ _) _)
    have HN5:=z_ (show NdB w5 w4.heap.size [.bool b0,.slice D1 n.f1.length d1,.slice D2 n.f2.length d2,.int .i64 n.f3,.int .i64 n.f4,.slice D5 n.f5.length d5,.int .i64 n.f6,.int .i64 n.f7,.int .i64 n.f8,.slice D9 n.f9.length d9] from by rw [hw5];exact heap_alloc_new w4 _)
    have hN5:=(show NdB (w4.alloc (.cells #[.bool b0,.slice D1 n.f1.length d1,.slice D2 n.f2.length d2,.int .i64 n.f3,.int .i64 n.f4,.slice D5 n.f5.length d5,.int .i64 n.f6,.int .i64 n.f7,.int .i64 n.f8,.slice D9 n.f9.length d9] 59)) w4.heap.size [.bool b0,.slice D1 n.f1.length d1,.slice D2 n.f2.length d2,.int .i64 n.f3,.int .i64 n.f4,.slice D5 n.f5.length d5,.int .i64 n.f6,.int .i64 n.f7,.int .i64 n.f8,.slice D9 n.f9.length d9] from heap_alloc_new w4 _).cells
    obtain ⟨m0,m1,m2,m3,m4,m5,m6,m7,m8,m9⟩:=hN5
    cases b0 with
    | true=>
      go_wp2_with fail
      rw [<-hw5]
      clear m0 m1 m2 m3 m4 m5 m6 m7 m8 m9 hw5
      obtain ⟨g9,hg9⟩ : ∃g9,g9=w4.heap.size:=⟨_,rfl⟩
      rw [<-hg9] at HN5
      rw [<-hg9]
      have HG9:=z_ hg9
      clear hg9
      have HG85:=z_ ((HG8.out.below HB4.out).below HB5.out)
      have HIDW:=z_ (show ∀W,Below w4.heap.size w4 W->Kd.C (Kd.int .u8) W A id.length id from fun W hW=>Kd.C_below (Kd.C_below (Kd.C_below HID.out HB.out.1) HB4.out) hW)
      obtain ⟨sm,hsm⟩ : ∃sm,sm=decide (n.f1=id):=⟨_,rfl⟩
      have HSM:=z_ hsm
      have HEQ:=z_ (show bytes_Equal.f n.f1 id=some sm from by unfold bytes_Equal.f;rw [strNum_eq (HOS.out n (nodeAt_mem HNA.out)) HO.out,hsm])
      clear hsm
      refine start_ (n:=13) (S:=fun w'=>NdB w' g9 [.bool true,.slice D1 n.f1.length d1,.slice D2 n.f2.length d2,.int .i64 n.f3,.int .i64 n.f4,.slice D5 n.f5.length d5,.int .i64 n.f6,.int .i64 n.f7,.int .i64 n.f8,.slice D9 n.f9.length d9]) (ds:=[]) (bt_ 13 0) (by kernel_rfl) rfl rfl ?hs0 (fun hHeld=>?_)
      case hs0=>exact HN5.out
      refine with_tabW find_tab8 find_bits8 (fun HT_ HW_=>?_)
      have HD5:=z_ (show Below w5.heap.size w5 w5.drew from below_drew (Below.refl _ _))
      generalize hgw:w5.drew=w6 at HD5 hHeld ⊢
      clear hgw
      refine take_ (i:=0) (N:=some 37) (v:=?_) (a':=?_) (bt_ 13 1) rfl rfl (take_ofW HT_.out HW_.out (by kernel_rfl)) (fun _ _ _ h=>h) (Or.inl ⟨by rfl,?_⟩) hHeld ?_ ?_
      rotate_left
      ·rintro w' s0
       obtain ⟨m0,m1,m2,m3,m4,m5,m6,m7,m8,m9⟩:=NdB.cells s0
       go_simp
       with_reducible rfl
      rotate_left
      ·simp only [pq_]
       rfl
      refine pure_ (i:=1) (N:=some 38) (v:=?_) (a':=?_) (bt_ 13 3) rfl rfl (any_of HT_.out (by kernel_rfl)) (fun _ _ _ h=>h) (Or.inl ⟨by rfl,?_⟩) ?_ ?_
      rotate_left
      ·intro w'
       go_simp
       with_reducible rfl
      rotate_left
      ·simp only [pq_]
       rfl
      refine take_ (i:=2) (N:=some 39) (v:=?_) (a':=?_) (bt_ 13 7) rfl rfl (take_ofW HT_.out HW_.out (by kernel_rfl)) (fun _ _ _ h=>h) (Or.inl ⟨by rfl,?_⟩) hHeld ?_ ?_
      rotate_left
      ·rintro w' s0
       obtain ⟨m0,m1,m2,m3,m4,m5,m6,m7,m8,m9⟩:=NdB.cells s0
       go_simp
       with_reducible rfl
      rotate_left
      ·simp only [pq_]
       rfl
      refine pure_ (i:=3) (N:=some 40) (v:=?_) (a':=?_) (bt_ 13 15) rfl rfl (any_of HT_.out (by kernel_rfl)) (fun _ _ _ h=>h) (Or.inl ⟨by rfl,?_⟩) ?_ ?_
      rotate_left
      ·intro w'
       go_simp
       with_reducible rfl
      rotate_left
      ·simp only [pq_]
       rfl
      refine pure_ (i:=4) (N:=some 41) (v:=?_) (a':=?_) (bt_ 13 31) rfl rfl (any_of HT_.out (by kernel_rfl)) (fun _ _ _ h=>h) (Or.inl ⟨by rfl,?_⟩) ?_ ?_
      rotate_left
      ·intro w'
       go_simp
       with_reducible rfl
      rotate_left
      ·simp only [pq_]
       rfl
      refine take_ (i:=5) (N:=some 42) (v:=?_) (a':=?_) (bt_ 13 63) rfl rfl (take_ofW HT_.out HW_.out (by kernel_rfl)) (fun _ _ _ h=>h) (Or.inl ⟨by rfl,?_⟩) hHeld ?_ ?_
      rotate_left
      ·rintro w' s0
       obtain ⟨m0,m1,m2,m3,m4,m5,m6,m7,m8,m9⟩:=NdB.cells s0
       go_simp
       with_reducible rfl
      rotate_left
      ·simp only [pq_]
       rfl
      refine pure_ (i:=6) (N:=some 43) (v:=?_) (a':=?_) (bt_ 13 127) rfl rfl (any_of HT_.out (by kernel_rfl)) (fun _ _ _ h=>h) (Or.inl ⟨by rfl,?_⟩) ?_ ?_
      rotate_left
      ·intro w'
       go_simp
       with_reducible rfl
      rotate_left
      ·simp only [pq_]
       rfl
      refine pure_ (i:=9) (N:=some 46) (v:=?_) (a':=?_) (bt_ 13 639) rfl rfl (any_of HT_.out (by kernel_rfl)) (fun _ _ _ h=>h) (Or.inl ⟨by rfl,?_⟩) ?_ ?_
      rotate_left
      ·intro w'
       go_simp
       with_reducible rfl
      rotate_left
      ·simp only [pq_]
       rfl
      refine one_ (i:=7) (N:=some 44) (bt_ 13 767) rfl rfl (one_of HT_.out (by kernel_rfl)) (by decide) (fun K hK=>?_)
      refine goes_ Tryz.func46 (by kernel_rfl) rfl #[.slice D1 n.f1.length d1,.slice A id.length c] (by rfl) rfl rfl (by (try simp only [List.map_toArray,List.map_cons,List.map_nil]);first|done|rfl) ?_
      with_reducible refine (bytes_Equal.calls D1 d1 n.f1 A c id sm w6 (Kd.V_reads' (Kd.V_below (Kd.V_below HV1.out HB5.out) HD5.out)).2.2 (Kd.V_reads' HV1.out).2.1 (HIDW.out w6 (below_step HB5.out HD5.out)) HC.out HEQ.out).mono ?_
      rintro e w7 ⟨rfl,hdr⟩
      have HD7:=z_ (below_step HD5.out hdr.below)
      have HN7:=z_ (HN5.out.below (below_step HD5.out hdr.below))
      clear hdr
      refine ⟨_,rfl,?_⟩
      refine hK.out _ _ HN7.out (fun hHeld=>?_)
      clear hK K
      refine norm_ (a':=?_) ?_ ?_
      rotate_left
      ·show Act.put _ (some 44) _=_
       simp only [pq_]
       rfl
      refine pure_ (i:=8) (N:=some 45) (v:=?_) (a':=?_) (bt_ 13 1023) rfl rfl (any_of HT_.out (by kernel_rfl)) (fun _ _ _ h=>h) (Or.inl ⟨by rfl,?_⟩) ?_ ?_
      rotate_left
      ·intro w'
       go_simp
       with_reducible rfl
      rotate_left
      ·simp only [pq_]
       rfl
      refine one_ (i:=10) (N:=none) (bt_ 13 2047) rfl rfl (one_of HT_.out (by kernel_rfl)) (by decide) (fun K hK=>?_)
      obtain ⟨z0,z1,z2,z3,z4,z5,z6,z7,z8,z9,z10,z11,z12⟩:=(HG85.out.below HD7.out).cells
      obtain ⟨f0,f1,f2,f3,f4,f5,f6,f7,f8,f9,f10,f11,f12⟩:=(HG85.out.below HD7.out).frozen
      obtain ⟨w8,hw8⟩ : ∃w8,w8=putM w7 g8 (.bool true) (.slice D1 n.f1.length d1) (.slice D2 n.f2.length d2) (.int .i64 n.f3) (.int .i64 n.f4) (.slice D5 n.f5.length d5) (.int .i64 n.f6) (.int .i64 n.f7) (.int .i64 n.f8) (.slice D9 n.f9.length d9):=⟨_,rfl⟩
      refine skip_ (w1:=w8) (by rfl) rfl ?_ ?_
      ·rw [hw8]
       go_simp<;>first|rfl|done
      clear z0 z1 z2 z3 z4 z5 z6 z7 z8 z9 z10 z11 z12 f0 f1 f2 f3 f4 f5 f6 f7 f8 f9 f10 f11 f12
      have HN8:=z_ (show NdB w8 g9 [.bool true,.slice D1 n.f1.length d1,.slice D2 n.f2.length d2,.int .i64 n.f3,.int .i64 n.f4,.slice D5 n.f5.length d5,.int .i64 n.f6,.int .i64 n.f7,.int .i64 n.f8,.slice D9 n.f9.length d9] from by rw [hw8];exact (putM_far (by have:=HG9.out;have:=HGG.out;have:=HB.out.2.1;have:=HB4.out.size;omega) _ _ _ _ _ _ _ _ _ _).trans HN7.out)
      have HG88:=z_ (show SpB w8 g8 [.slice An fn cn,.int .i64 i,.bool true,.slice D1 n.f1.length d1,.slice D2 n.f2.length d2,.int .i64 n.f3,.int .i64 n.f4,.slice D5 n.f5.length d5,.int .i64 n.f6,.int .i64 n.f7,.int .i64 n.f8,.slice D9 n.f9.length d9,.bool false] from by rw [hw8];exact putM_sp (HG85.out.below HD7.out) _ _ _ _ _ _ _ _ _ _)
      have HS8:=z_ (show w7.heap.size<=w8.heap.size/\∀k,k≠g8->w8.heap[k]? = w7.heap[k]? from by rw [hw8];exact ⟨(putM_below (Below.refl 0 _) (Nat.zero_le g8) _ _ _ _ _ _ _ _ _ _).size,fun k hk=>putM_far hk _ _ _ _ _ _ _ _ _ _⟩)
      have HBL8:=z_ (show Below w.heap.size w w8 from by rw [hw8];exact putM_below (below_step (below_step HB.out.1 HB4.out) (below_step HB5.out HD7.out)) (by have:=HGG.out;omega) _ _ _ _ _ _ _ _ _ _)
      clear hw8
      refine hK.out _ _ HN8.out (fun hHeld=>?_)
      clear hK K
      refine pure_ (i:=11) (N:=some 47) (v:=?_) (a':=?_) (bt_ 13 4095) rfl rfl (any_of HT_.out (by kernel_rfl)) (fun _ _ _ h=>h) (Or.inl ⟨by rfl,?_⟩) ?_ ?_
      rotate_left
      ·intro w'
       go_simp
       with_reducible rfl
      rotate_left
      ·simp only [pq_]
       rfl
      refine one_ (i:=12) (N:=none) (bt_ 13 8191) rfl rfl (one_of HT_.out (by kernel_rfl)) (by decide) (fun K hK=>?_)
      obtain ⟨z0,z1,z2,z3,z4,z5,z6,z7,z8,z9,z10,z11,z12⟩:=HG88.out.cells
      obtain ⟨f0,f1,f2,f3,f4,f5,f6,f7,f8,f9,f10,f11,f12⟩:=HG88.out.frozen
      obtain ⟨w9,hw9⟩ : ∃w9,w9=w8.setCell ⟨g8,12,none⟩ (.bool sm):=⟨_,rfl⟩
      refine skip_ (w1:=w9) (by rfl) rfl ?_ ?_
      ·rw [hw9]
       go_simp<;>first|rfl|done
      clear z0 z1 z2 z3 z4 z5 z6 z7 z8 z9 z10 z11 z12 f0 f1 f2 f3 f4 f5 f6 f7 f8 f9 f10 f11 f12
      have HN9:=z_ (show NdB w9 g9 [.bool true,.slice D1 n.f1.length d1,.slice D2 n.f2.length d2,.int .i64 n.f3,.int .i64 n.f4,.slice D5 n.f5.length d5,.int .i64 n.f6,.int .i64 n.f7,.int .i64 n.f8,.slice D9 n.f9.length d9] from by rw [hw9];exact (Below.heap_setCell _ ⟨g8,12,none⟩ _ g9 (by have:=HG9.out;have:=HGG.out;have:=HB.out.2.1;have:=HB4.out.size;show g9≠g8;omega)).trans HN8.out)
      have HG89:=z_ (show SpB w9 g8 [.slice An fn cn,.int .i64 i,.bool true,.slice D1 n.f1.length d1,.slice D2 n.f2.length d2,.int .i64 n.f3,.int .i64 n.f4,.slice D5 n.f5.length d5,.int .i64 n.f6,.int .i64 n.f7,.int .i64 n.f8,.slice D9 n.f9.length d9,.bool sm] from by rw [hw9];exact blk_set HG88.out 12 _)
      have HS9:=z_ (show w7.heap.size<=w9.heap.size/\∀k,k≠g8->w9.heap[k]? = w7.heap[k]? from by rw [hw9];exact ⟨Nat.le_trans HS8.out.1 (Below.setCell (Below.refl 0 w8) (Nat.zero_le g8) (p:=⟨g8,12,none⟩) _).size,fun k hk=>(Below.heap_setCell _ ⟨g8,12,none⟩ _ k hk).trans (HS8.out.2 k hk)⟩)
      have HBL9:=z_ (show Below w.heap.size w w9 from by rw [hw9];exact Below.setCell HBL8.out (by have:=HGG.out;show w.heap.size<=g8;omega) _)
      clear hw9
      refine hK.out _ _ HN9.out (fun hHeld=>?_)
      clear hK K
      refine done_ (done_of HT_.out (by kernel_rfl)) ?_
      clear hHeld HT_ HW_
      have h66:SpB w9 g6 [.slice none 0 0,.int .i64 0,.bool false,.slice none 0 0,.slice none 0 0,.int .i64 0,.int .i64 0,.slice none 0 0,.int .i64 0,.int .i64 0,.int .i64 0,.slice none 0 0,.bool false]:=(HS9.out.2 g6 (by have:=HGG.out;omega)).trans (((HG6.out.below HB4.out).below HB5.out).below HD7.out)
      obtain ⟨s0,s1,s2,s3,s4,s5,s6,s7,s8,s9,s10,s11,s12⟩:=HG89.out.cells
      obtain ⟨t0_,t1,t2,t3,t4,t5,t6,t7,t8,t9,t10,t11,t12⟩:=h66.cells
      obtain ⟨e0,e1,e2,e3,e4,e5,e6,e7,e8,e9,e10,e11,e12⟩:=h66.frozen
      have H66:=z_ h66
      clear h66
      go_wp2_with fail
      clear s0 s1 s2 s3 s4 s5 s6 s7 s8 s9 s10 s11 s12 t0_ t1 t2 t3 t4 t5 t6 t7 t8 t9 t10 t11 t12 e0 e1 e2 e3 e4 e5 e6 e7 e8 e9 e10 e11 e12
      have hn8:=HF4.out.ne (HG8.out.below HB4.out)
      have hn6:=HF4.out.ne (HG6.out.below HB4.out)
      have hb47:=below_step HB5.out HD7.out
      obtain ⟨wz,hwz⟩ : ∃wz,wz=putS w9 g6 (.slice An fn cn) (.int .i64 i) (.bool true) (.slice D1 n.f1.length d1) (.slice D2 n.f2.length d2) (.int .i64 n.f3) (.int .i64 n.f4) (.slice D5 n.f5.length d5) (.int .i64 n.f6) (.int .i64 n.f7) (.int .i64 n.f8) (.slice D9 n.f9.length d9) (.bool sm):=⟨_,rfl⟩
      have hz:w4.heap.size<=wz.heap.size/\∀k,k<w4.heap.size->k≠g8->k≠g6->wz.heap[k]? = w4.heap[k]? := by
       rw [hwz]
       refine ⟨Nat.le_trans hb47.size (Nat.le_trans HS9.out.1 (putS_below (Below.refl 0 w9) (Nat.zero_le g6) _ _ _ _ _ _ _ _ _ _ _ _ _).size),fun k hk h8 h6=>?_⟩
       rw [putS_far h6,HS9.out.2 k h8]
       exact hb47.block k hk
      have hst : ∀k,Z4 k\/some k=(Value.slice An fn cn).ownBlock->k<w4.heap.size->wz.heap[k]? = w4.heap[k]? := fun k hk hl=>hz.2 k hl (by rintro rfl;rcases hk with hk|hk;exact (HZ4.out _ hk).2.1 rfl;exact hn8 hk) (by rintro rfl;rcases hk with hk|hk;exact (HZ4.out _ hk).2.2 rfl;exact hn6 hk)
      have hF:ForksM wz w.heap.size (.slice An fn cn) Z4 fs:=HF4.out.step hz.1 (fun k hl hk=>hst k hk hl)
      have hv1:=Kd.V_step HV1.out (w1:=wz) (fun k hk hl=>hst k (.inl hk) hl)
      have hv2:=Kd.V_step HV2.out (w1:=wz) (fun k hk hl=>hst k (.inl hk) hl)
      have hv5:=Kd.V_step HV5.out (w1:=wz) (fun k hk hl=>hst k (.inl hk) hl)
      have hv9:=Kd.V_step HV9.out (w1:=wz) (fun k hk hl=>hst k (.inl hk) hl)
      have hs:findO row id i (some t)=⟨[],i,n,sm⟩:=by
       have hT:=HT.out.1
       have hna:=HNA.out
       have hb0:=HB0.out
       cases t with
       | leaf m=>
         obtain rfl:m=n:=Option.some.inj (hT.1.symm.trans hna)
         show (⟨[],i,m,decide (m.f1=id)⟩:Spot)=_
         rw [HSM.out]
       | fork m l r=>
         obtain rfl:m=n:=Option.some.inj (hT.1.symm.trans hna)
         rw [hT.2.1] at hb0
         cases hb0
      refine bodyPost_ret (results_find _ g6 (putS_nd H66.out (.slice An fn cn) (.int .i64 i) (.bool true) (.slice D1 n.f1.length d1) (.slice D2 n.f2.length d2) (.int .i64 n.f3) (.int .i64 n.f4) (.slice D5 n.f5.length d5) (.int .i64 n.f6) (.int .i64 n.f7) (.int .i64 n.f8) (.slice D9 n.f9.length d9) (.bool sm)) _ rfl) rfl ?_
      rw [<-HRW.out,HT.out.2.2.2,hs]
      show SpotV w (putS w9 g6 (.slice An fn cn) (.int .i64 i) (.bool true) (.slice D1 n.f1.length d1) (.slice D2 n.f2.length d2) (.int .i64 n.f3) (.int .i64 n.f4) (.slice D5 n.f5.length d5) (.int .i64 n.f6) (.int .i64 n.f7) (.int .i64 n.f8) (.slice D9 n.f9.length d9) (.bool sm)) X _ _/\_
      rw [<-hwz]
      refine ⟨⟨.slice An fn cn,Z4,D1,D2,D5,D9,d1,d2,d5,d9,?_,?_,fun k hk=>(HZ4.out k hk).1,hv1,hv2,hv5,hv9⟩,?_⟩
      ·show Ending.returned (.agg #[.slice An fn cn,.int .i64 i,.bool true,.slice D1 n.f1.length d1,.slice D2 n.f2.length d2,.int .i64 n.f3,.int .i64 n.f4,.slice D5 n.f5.length d5,.int .i64 n.f6,.int .i64 n.f7,.int .i64 n.f8,.slice D9 n.f9.length d9,.bool sm]) = .returned (.agg #[.slice An fn cn,.int .i64 i,.bool n.f0,.slice D1 n.f1.length d1,.slice D2 n.f2.length d2,.int .i64 n.f3,.int .i64 n.f4,.slice D5 n.f5.length d5,.int .i64 n.f6,.int .i64 n.f7,.int .i64 n.f8,.slice D9 n.f9.length d9,.bool sm])
       rw [HB0.out]
      ·show ForksM wz w.heap.size (.slice An fn cn) Z4 (fs++[])
       rw [List.append_nil]
       exact hF
      ·show Below w.heap.size w (putS w9 g6 (.slice An fn cn) (.int .i64 i) (.bool true) (.slice D1 n.f1.length d1) (.slice D2 n.f2.length d2) (.int .i64 n.f3) (.int .i64 n.f4) (.slice D5 n.f5.length d5) (.int .i64 n.f6) (.int .i64 n.f7) (.int .i64 n.f8) (.slice D9 n.f9.length d9) (.bool sm))
       exact putS_below HBL9.out (by have:=HGG.out;omega) _ _ _ _ _ _ _ _ _ _ _ _ _
    | false=>
      go_wp2_with fail
      rw [<-hw5]
      clear m0 m1 m2 m3 m4 m5 m6 m7 m8 m9 hw5
      obtain ⟨g9,hg9⟩ : ∃g9,g9=w4.heap.size:=⟨_,rfl⟩
      rw [<-hg9] at HN5
      rw [<-hg9]
      have HG9:=z_ hg9
      clear hg9
      obtain rfl:nr=row.length:=HNR.out
      obtain ⟨bg,hbg⟩ : ∃bg,bg=beginsB row n.f5 n.f4:=⟨_,rfl⟩
      have HBG0:=z_ hbg
      have HRK:=z_ (Kd.R_below (Kd.R_below HB.out.2.2 HB4.out) HB5.out)
      have HCK:=z_ (Kd.R_reads' HRK.out).2.2
      have HCKN:=z_ (show row.length<=256 from by rw [HRW.out];unfold keyB;simp;omega)
      refine (bits_Begins.calls Ak ck row D5 d5 n.f5 n.f4 bg w5 HCK.out HK3.out.2 (Kd.V_reads' (Kd.V_below HV5.out HB5.out)).2.2 (Kd.V_reads' HV5.out).2.1 (by rw [hbg];exact begins_f row n.f5 n.f4 (by have:=HCKN.out;omega))).mono ?_
      rintro e wb ⟨rfl,hbb⟩
      have HNb:=z_ (HN5.out.below hbb)
      replace HRK:=z_ (Kd.R_below HRK.out hbb)
      replace HB5:=z_ (below_step HB5.out hbb)
      have HG85:=z_ ((HG8.out.below HB4.out).below HB5.out)
      clear hbg hbb HCK HN5
      cases bg with
      | false=>
        have HBG:=z_ (show beginsB row n.f5 n.f4=false from HBG0.out.symm)
        go_wp2_with fail
        refine start_ (n:=13) (S:=fun w'=>NdB w' g9 [.bool false,.slice D1 n.f1.length d1,.slice D2 n.f2.length d2,.int .i64 n.f3,.int .i64 n.f4,.slice D5 n.f5.length d5,.int .i64 n.f6,.int .i64 n.f7,.int .i64 n.f8,.slice D9 n.f9.length d9]) (ds:=[]) (bt_ 13 0) (by kernel_rfl) rfl rfl ?hs0 (fun hHeld=>?_)
        case hs0=>exact HNb.out
        refine with_tabW find_tab8 find_bits8 (fun HT_ HW_=>?_)
        have HD5:=z_ (show Below wb.heap.size wb wb.drew from below_drew (Below.refl _ _))
        generalize hgw:wb.drew=w6 at HD5 hHeld ⊢
        clear hgw
        refine take_ (i:=0) (N:=some 37) (v:=?_) (a':=?_) (bt_ 13 1) rfl rfl (take_ofW HT_.out HW_.out (by kernel_rfl)) (fun _ _ _ h=>h) (Or.inl ⟨by rfl,?_⟩) hHeld ?_ ?_
        rotate_left
        ·rintro w' s0
         obtain ⟨m0,m1,m2,m3,m4,m5,m6,m7,m8,m9⟩:=NdB.cells s0
         go_simp
         with_reducible rfl
        rotate_left
        ·simp only [pq_]
         rfl
        refine pure_ (i:=1) (N:=some 38) (v:=?_) (a':=?_) (bt_ 13 3) rfl rfl (any_of HT_.out (by kernel_rfl)) (fun _ _ _ h=>h) (Or.inl ⟨by rfl,?_⟩) ?_ ?_
        rotate_left
        ·intro w'
         go_simp
         with_reducible rfl
        rotate_left
        ·simp only [pq_]
         rfl
        refine take_ (i:=2) (N:=some 39) (v:=?_) (a':=?_) (bt_ 13 7) rfl rfl (take_ofW HT_.out HW_.out (by kernel_rfl)) (fun _ _ _ h=>h) (Or.inl ⟨by rfl,?_⟩) hHeld ?_ ?_
        rotate_left
        ·rintro w' s0
         obtain ⟨m0,m1,m2,m3,m4,m5,m6,m7,m8,m9⟩:=NdB.cells s0
         go_simp
         with_reducible rfl
        rotate_left
        ·simp only [pq_]
         rfl
        refine pure_ (i:=3) (N:=some 40) (v:=?_) (a':=?_) (bt_ 13 15) rfl rfl (any_of HT_.out (by kernel_rfl)) (fun _ _ _ h=>h) (Or.inl ⟨by rfl,?_⟩) ?_ ?_
        rotate_left
        ·intro w'
         go_simp
         with_reducible rfl
        rotate_left
        ·simp only [pq_]
         rfl
        refine pure_ (i:=4) (N:=some 41) (v:=undef) (a':=?_) (bt_ 13 31) rfl rfl (any_of HT_.out (by kernel_rfl)) (fun _ _ _ h=>h) (Or.inr ⟨by rfl,rfl⟩) ?_ ?_
        rotate_left
        ·simp only [pq_]
         rfl
        refine pure_ (i:=5) (N:=some 42) (v:=undef) (a':=?_) (bt_ 13 63) rfl rfl (any_of HT_.out (by kernel_rfl)) (fun _ _ _ h=>h) (Or.inr ⟨by rfl,rfl⟩) ?_ ?_
        rotate_left
        ·simp only [pq_]
         rfl
        refine pure_ (i:=6) (N:=some 43) (v:=undef) (a':=?_) (bt_ 13 127) rfl rfl (any_of HT_.out (by kernel_rfl)) (fun _ _ _ h=>h) (Or.inr ⟨by rfl,rfl⟩) ?_ ?_
        rotate_left
        ·simp only [pq_]
         rfl
        refine pure_ (i:=9) (N:=some 46) (v:=?_) (a':=?_) (bt_ 13 639) rfl rfl (any_of HT_.out (by kernel_rfl)) (fun _ _ _ h=>h) (Or.inl ⟨by rfl,?_⟩) ?_ ?_
        rotate_left
        ·intro w'
         go_simp
         with_reducible rfl
        rotate_left
        ·simp only [pq_]
         rfl
        refine pure_ (i:=7) (N:=some 44) (v:=undef) (a':=?_) (bt_ 13 767) rfl rfl (any_of HT_.out (by kernel_rfl)) (fun _ _ _ h=>h) (Or.inr ⟨by rfl,rfl⟩) ?_ ?_
        rotate_left
        ·simp only [pq_]
         rfl
        have HD7:=HD5
        have HN7:=z_ (HNb.out.below HD5.out)
        refine pure_ (i:=8) (N:=some 45) (v:=?_) (a':=?_) (bt_ 13 1023) rfl rfl (any_of HT_.out (by kernel_rfl)) (fun _ _ _ h=>h) (Or.inl ⟨by rfl,?_⟩) ?_ ?_
        rotate_left
        ·intro w'
         go_simp
         with_reducible rfl
        rotate_left
        ·simp only [pq_]
         rfl
        refine one_ (i:=10) (N:=none) (bt_ 13 2047) rfl rfl (one_of HT_.out (by kernel_rfl)) (by decide) (fun K hK=>?_)
        obtain ⟨z0,z1,z2,z3,z4,z5,z6,z7,z8,z9,z10,z11,z12⟩:=(HG85.out.below HD7.out).cells
        obtain ⟨f0,f1,f2,f3,f4,f5,f6,f7,f8,f9,f10,f11,f12⟩:=(HG85.out.below HD7.out).frozen
        obtain ⟨w8,hw8⟩ : ∃w8,w8=putM w6 g8 (.bool false) (.slice D1 n.f1.length d1) (.slice D2 n.f2.length d2) (.int .i64 n.f3) (.int .i64 n.f4) (.slice D5 n.f5.length d5) (.int .i64 n.f6) (.int .i64 n.f7) (.int .i64 n.f8) (.slice D9 n.f9.length d9):=⟨_,rfl⟩
        refine skip_ (w1:=w8) (by rfl) rfl ?_ ?_
        ·rw [hw8]
         go_simp<;>first|rfl|done
        clear z0 z1 z2 z3 z4 z5 z6 z7 z8 z9 z10 z11 z12 f0 f1 f2 f3 f4 f5 f6 f7 f8 f9 f10 f11 f12
        have HN8:=z_ (show NdB w8 g9 [.bool false,.slice D1 n.f1.length d1,.slice D2 n.f2.length d2,.int .i64 n.f3,.int .i64 n.f4,.slice D5 n.f5.length d5,.int .i64 n.f6,.int .i64 n.f7,.int .i64 n.f8,.slice D9 n.f9.length d9] from by rw [hw8];exact (putM_far (by have:=HG9.out;have:=HGG.out;have:=HB.out.2.1;have:=HB4.out.size;omega) _ _ _ _ _ _ _ _ _ _).trans HN7.out)
        have HG88:=z_ (show SpB w8 g8 [.slice An fn cn,.int .i64 i,.bool false,.slice D1 n.f1.length d1,.slice D2 n.f2.length d2,.int .i64 n.f3,.int .i64 n.f4,.slice D5 n.f5.length d5,.int .i64 n.f6,.int .i64 n.f7,.int .i64 n.f8,.slice D9 n.f9.length d9,.bool false] from by rw [hw8];exact putM_sp (HG85.out.below HD7.out) _ _ _ _ _ _ _ _ _ _)
        have HS8:=z_ (show w6.heap.size<=w8.heap.size/\∀k,k≠g8->w8.heap[k]? = w6.heap[k]? from by rw [hw8];exact ⟨(putM_below (Below.refl 0 _) (Nat.zero_le g8) _ _ _ _ _ _ _ _ _ _).size,fun k hk=>putM_far hk _ _ _ _ _ _ _ _ _ _⟩)
        have HBL8:=z_ (show Below w.heap.size w w8 from by rw [hw8];exact putM_below (below_step (below_step HB.out.1 HB4.out) (below_step HB5.out HD7.out)) (by have:=HGG.out;omega) _ _ _ _ _ _ _ _ _ _)
        clear hw8
        refine hK.out _ _ HN8.out (fun hHeld=>?_)
        clear hK K
        refine pure_ (i:=11) (N:=some 47) (v:=?_) (a':=?_) (bt_ 13 4095) rfl rfl (any_of HT_.out (by kernel_rfl)) (fun _ _ _ h=>h) (Or.inl ⟨by rfl,?_⟩) ?_ ?_
        rotate_left
        ·intro w'
         go_simp
         with_reducible rfl
        rotate_left
        ·simp only [pq_]
         rfl
        refine one_ (i:=12) (N:=none) (bt_ 13 8191) rfl rfl (one_of HT_.out (by kernel_rfl)) (by decide) (fun K hK=>?_)
        obtain ⟨z0,z1,z2,z3,z4,z5,z6,z7,z8,z9,z10,z11,z12⟩:=HG88.out.cells
        obtain ⟨f0,f1,f2,f3,f4,f5,f6,f7,f8,f9,f10,f11,f12⟩:=HG88.out.frozen
        obtain ⟨w9,hw9⟩ : ∃w9,w9=w8.setCell ⟨g8,12,none⟩ (.bool false):=⟨_,rfl⟩
        refine skip_ (w1:=w9) (by rfl) rfl ?_ ?_
        ·rw [hw9]
         go_simp<;>first|rfl|done
        clear z0 z1 z2 z3 z4 z5 z6 z7 z8 z9 z10 z11 z12 f0 f1 f2 f3 f4 f5 f6 f7 f8 f9 f10 f11 f12
        have HN9:=z_ (show NdB w9 g9 [.bool false,.slice D1 n.f1.length d1,.slice D2 n.f2.length d2,.int .i64 n.f3,.int .i64 n.f4,.slice D5 n.f5.length d5,.int .i64 n.f6,.int .i64 n.f7,.int .i64 n.f8,.slice D9 n.f9.length d9] from by rw [hw9];exact (Below.heap_setCell _ ⟨g8,12,none⟩ _ g9 (by have:=HG9.out;have:=HGG.out;have:=HB.out.2.1;have:=HB4.out.size;show g9≠g8;omega)).trans HN8.out)
        have HG89:=z_ (show SpB w9 g8 [.slice An fn cn,.int .i64 i,.bool false,.slice D1 n.f1.length d1,.slice D2 n.f2.length d2,.int .i64 n.f3,.int .i64 n.f4,.slice D5 n.f5.length d5,.int .i64 n.f6,.int .i64 n.f7,.int .i64 n.f8,.slice D9 n.f9.length d9,.bool false] from by rw [hw9];exact blk_set HG88.out 12 _)
        have HS9:=z_ (show w6.heap.size<=w9.heap.size/\∀k,k≠g8->w9.heap[k]? = w6.heap[k]? from by rw [hw9];exact ⟨Nat.le_trans HS8.out.1 (Below.setCell (Below.refl 0 w8) (Nat.zero_le g8) (p:=⟨g8,12,none⟩) _).size,fun k hk=>(Below.heap_setCell _ ⟨g8,12,none⟩ _ k hk).trans (HS8.out.2 k hk)⟩)
        have HBL9:=z_ (show Below w.heap.size w w9 from by rw [hw9];exact Below.setCell HBL8.out (by have:=HGG.out;show w.heap.size<=g8;omega) _)
        clear hw9
        refine hK.out _ _ HN9.out (fun hHeld=>?_)
        clear hK K
        refine done_ (done_of HT_.out (by kernel_rfl)) ?_
        clear hHeld HT_ HW_
        have h66:SpB w9 g6 [.slice none 0 0,.int .i64 0,.bool false,.slice none 0 0,.slice none 0 0,.int .i64 0,.int .i64 0,.slice none 0 0,.int .i64 0,.int .i64 0,.int .i64 0,.slice none 0 0,.bool false]:=(HS9.out.2 g6 (by have:=HGG.out;omega)).trans (((HG6.out.below HB4.out).below HB5.out).below HD7.out)
        obtain ⟨s0,s1,s2,s3,s4,s5,s6,s7,s8,s9,s10,s11,s12⟩:=HG89.out.cells
        obtain ⟨t0_,t1,t2,t3,t4,t5,t6,t7,t8,t9,t10,t11,t12⟩:=h66.cells
        obtain ⟨e0,e1,e2,e3,e4,e5,e6,e7,e8,e9,e10,e11,e12⟩:=h66.frozen
        have H66:=z_ h66
        clear h66
        go_wp2_with fail
        clear s0 s1 s2 s3 s4 s5 s6 s7 s8 s9 s10 s11 s12 t0_ t1 t2 t3 t4 t5 t6 t7 t8 t9 t10 t11 t12 e0 e1 e2 e3 e4 e5 e6 e7 e8 e9 e10 e11 e12
        have hn8:=HF4.out.ne (HG8.out.below HB4.out)
        have hn6:=HF4.out.ne (HG6.out.below HB4.out)
        have hb47:=below_step HB5.out HD7.out
        obtain ⟨wz,hwz⟩ : ∃wz,wz=putS w9 g6 (.slice An fn cn) (.int .i64 i) (.bool false) (.slice D1 n.f1.length d1) (.slice D2 n.f2.length d2) (.int .i64 n.f3) (.int .i64 n.f4) (.slice D5 n.f5.length d5) (.int .i64 n.f6) (.int .i64 n.f7) (.int .i64 n.f8) (.slice D9 n.f9.length d9) (.bool false):=⟨_,rfl⟩
        have hz:w4.heap.size<=wz.heap.size/\∀k,k<w4.heap.size->k≠g8->k≠g6->wz.heap[k]? = w4.heap[k]? := by
         rw [hwz]
         refine ⟨Nat.le_trans hb47.size (Nat.le_trans HS9.out.1 (putS_below (Below.refl 0 w9) (Nat.zero_le g6) _ _ _ _ _ _ _ _ _ _ _ _ _).size),fun k hk h8 h6=>?_⟩
         rw [putS_far h6,HS9.out.2 k h8]
         exact hb47.block k hk
        have hst : ∀k,Z4 k\/some k=(Value.slice An fn cn).ownBlock->k<w4.heap.size->wz.heap[k]? = w4.heap[k]? := fun k hk hl=>hz.2 k hl (by rintro rfl;rcases hk with hk|hk;exact (HZ4.out _ hk).2.1 rfl;exact hn8 hk) (by rintro rfl;rcases hk with hk|hk;exact (HZ4.out _ hk).2.2 rfl;exact hn6 hk)
        have hF:ForksM wz w.heap.size (.slice An fn cn) Z4 fs:=HF4.out.step hz.1 (fun k hl hk=>hst k hk hl)
        have hv1:=Kd.V_step HV1.out (w1:=wz) (fun k hk hl=>hst k (.inl hk) hl)
        have hv2:=Kd.V_step HV2.out (w1:=wz) (fun k hk hl=>hst k (.inl hk) hl)
        have hv5:=Kd.V_step HV5.out (w1:=wz) (fun k hk hl=>hst k (.inl hk) hl)
        have hv9:=Kd.V_step HV9.out (w1:=wz) (fun k hk hl=>hst k (.inl hk) hl)
        have hs:findO row id i (some t)=⟨[],i,n,false⟩:=by
         have hT:=HT.out.1
         have hna:=HNA.out
         have hb0:=HB0.out
         cases t with
         | leaf m=>
           obtain rfl:m=n:=Option.some.inj (hT.1.symm.trans hna)
           rw [hT.2] at hb0
           cases hb0
         | fork m l r=>
           obtain rfl:m=n:=Option.some.inj (hT.1.symm.trans hna)
           show (if beginsB row m.f5 m.f4 then _ else _)=_
           rw [if_neg (by rw [HBG.out];simp)]
        refine bodyPost_ret (results_find _ g6 (putS_nd H66.out (.slice An fn cn) (.int .i64 i) (.bool false) (.slice D1 n.f1.length d1) (.slice D2 n.f2.length d2) (.int .i64 n.f3) (.int .i64 n.f4) (.slice D5 n.f5.length d5) (.int .i64 n.f6) (.int .i64 n.f7) (.int .i64 n.f8) (.slice D9 n.f9.length d9) (.bool false)) _ rfl) rfl ?_
        rw [<-HRW.out,HT.out.2.2.2,hs]
        show SpotV w (putS w9 g6 (.slice An fn cn) (.int .i64 i) (.bool false) (.slice D1 n.f1.length d1) (.slice D2 n.f2.length d2) (.int .i64 n.f3) (.int .i64 n.f4) (.slice D5 n.f5.length d5) (.int .i64 n.f6) (.int .i64 n.f7) (.int .i64 n.f8) (.slice D9 n.f9.length d9) (.bool false)) X _ _/\_
        rw [<-hwz]
        refine ⟨⟨.slice An fn cn,Z4,D1,D2,D5,D9,d1,d2,d5,d9,?_,?_,fun k hk=>(HZ4.out k hk).1,hv1,hv2,hv5,hv9⟩,?_⟩
        ·show Ending.returned (.agg #[.slice An fn cn,.int .i64 i,.bool false,.slice D1 n.f1.length d1,.slice D2 n.f2.length d2,.int .i64 n.f3,.int .i64 n.f4,.slice D5 n.f5.length d5,.int .i64 n.f6,.int .i64 n.f7,.int .i64 n.f8,.slice D9 n.f9.length d9,.bool false]) = .returned (.agg #[.slice An fn cn,.int .i64 i,.bool n.f0,.slice D1 n.f1.length d1,.slice D2 n.f2.length d2,.int .i64 n.f3,.int .i64 n.f4,.slice D5 n.f5.length d5,.int .i64 n.f6,.int .i64 n.f7,.int .i64 n.f8,.slice D9 n.f9.length d9,.bool false])
         rw [HB0.out]
        ·show ForksM wz w.heap.size (.slice An fn cn) Z4 (fs++[])
         rw [List.append_nil]
         exact hF
        ·show Below w.heap.size w (putS w9 g6 (.slice An fn cn) (.int .i64 i) (.bool false) (.slice D1 n.f1.length d1) (.slice D2 n.f2.length d2) (.int .i64 n.f3) (.int .i64 n.f4) (.slice D5 n.f5.length d5) (.int .i64 n.f6) (.int .i64 n.f7) (.int .i64 n.f8) (.slice D9 n.f9.length d9) (.bool false))
         exact putS_below HBL9.out (by have:=HGG.out;omega) _ _ _ _ _ _ _ _ _ _ _ _ _
      | true=>
        have HBG:=z_ (show beginsB row n.f5 n.f4=true from HBG0.out.symm)
        obtain ⟨rows,hR,hrl,hrr⟩:=(HF4.out.below HB5.out).mem
        have HR:=z_ hR
        have HRL:=z_ (And.intro hrl hrr)
        have HFb:=z_ (HF4.out.below HB5.out)
        have hfn:=(Kd.R_reads' hR).1
        have HFN:=z_ hfn
        clear hR hrl hrr hfn
        obtain ⟨s0,s1,s2,s3,s4,s5,s6,s7,s8,s9,s10,s11,s12⟩:=HG85.out.cells
        obtain ⟨m0,m1,m2,m3,m4,m5,m6,m7,m8,m9⟩:=HNb.out.cells
        have hne:g9≠g8:=by have:=HG9.out;have:=HGG.out;have:=HB.out.2.1;have:=HB4.out.size;omega
        have hne2:g8≠g9:=hne.symm
        have HNE9:=z_ (show some g9≠(Value.slice An fn cn).ownBlock from fun he=>by
         obtain ⟨rows',hR',_⟩:=HF.out.1.mem
         have h1:=Kd.R_lt hR' g9 he.symm
         have h2:=HG9.out
         have h3:=HB4.out.size
         omega)
        have HONE:=z_ (show ∀q∈([.bool false,.slice D1 n.f1.length d1,.slice D2 n.f2.length d2,.int .i64 n.f3,.int .i64 n.f4,.slice D5 n.f5.length d5,.int .i64 n.f6,.int .i64 n.f7,.int .i64 n.f8,.slice D9 n.f9.length d9]:List Value),q.oneCell'=true from by
         intro q hq
         simp only [List.mem_cons,List.not_mem_nil,or_false] at hq
         rcases hq with rfl|rfl|rfl|rfl|rfl|rfl|rfl|rfl|rfl|rfl<;>rfl)
        have HBLb:=z_ (show Below w.heap.size w wb from below_step (below_step HB.out.1 HB4.out) HB5.out)
        clear s1 s2 s3 s4 s5 s6 s7 s8 s9 s10 s11 s12
        go_wp2_with ((at_builtin;go_must (refine Kd.R_append (Kd.raw 10) (w0:=w) w.heap.size rfl (.tmp 50) (.tmp 52) 54 59 (.agg #[.bool false,.slice none 0 0,.slice none 0 0,.int .i64 0,.int .i64 0,.slice none 0 0,.int .i64 0,.int .i64 0,.int .i64 0,.slice none 0 0]) 144 rfl Tryz.underlying54 (by kernel_rfl) rfl (by decide) (by omega) (.slice An fn cn) rows [.bool false,.slice D1 n.f1.length d1,.slice D2 n.f2.length d2,.int .i64 n.f3,.int .i64 n.f4,.slice D5 n.f5.length d5,.int .i64 n.f6,.int .i64 n.f7,.int .i64 n.f8,.slice D9 n.f9.length d9] [.bool false,.slice D1 n.f1.length d1,.slice D2 n.f2.length d2,.int .i64 n.f3,.int .i64 n.f4,.slice D5 n.f5.length d5,.int .i64 n.f6,.int .i64 n.f7,.int .i64 n.f8,.slice D9 n.f9.length d9] (fun _=>True) (fun _=>False) rfl rfl ?aP (fun _ h=>h.elim) ?aF ?aO ?aB ?aS ?aL ?_;(case aP=>exact ⟨rfl,rfl,HONE.out⟩);(case aF=>exact (fun _ _=>trivial));(case aO=>exact HR.out);(case aB=>exact HBLb.out);(case aS=>exact HBLb.out.size);(case aL=>have:=HRL.out.1;have:=HT.out.2.2.1;have:=HH.out;omega);intro v1 w7 hR1 hb1 hg1 hat1;obtain ⟨A',m1,c',e'⟩:=formR hR1;subst e';have HR7:=z_ hR1;have HB7:=z_ hb1;have HGR:=z_ hg1;have HAT:=z_ hat1;have HN7:=z_ (show NdB w7 g9 [.bool false,.slice D1 n.f1.length d1,.slice D2 n.f2.length d2,.int .i64 n.f3,.int .i64 n.f4,.slice D5 n.f5.length d5,.int .i64 n.f6,.int .i64 n.f7,.int .i64 n.f8,.slice D9 n.f9.length d9] from blk_grown HNb.out hg1 HNE9.out);have HG87:=z_ (show SpB w7 g8 [.slice An fn cn,.int .i64 i,.bool false,.slice none 0 0,.slice none 0 0,.int .i64 0,.int .i64 0,.slice none 0 0,.int .i64 0,.int .i64 0,.int .i64 0,.slice none 0 0,.bool false] from blk_grown HG85.out hg1 (Kd.R_ne HR.out HG85.out (by decide)));obtain ⟨z0,z1,z2,z3,z4,z5,z6,z7,z8,z9,z10,z11,z12⟩:=HG87.out.cells;obtain ⟨f0,f1,f2,f3,f4,f5,f6,f7,f8,f9,f10,f11,f12⟩:=HG87.out.frozen;obtain ⟨n0,n1,n2,n3,n4,n5,n6,n7,n8,n9⟩:=HN7.out.cells;clear hR1 hb1 hg1 hat1)))
        obtain ⟨w8,hw8⟩ : ∃w8,w8=w7.setCell ⟨g8,0,none⟩ (.slice A' m1 c'):=⟨_,rfl⟩
        rw [<-hw8]
        have HG88:=z_ (show SpB w8 g8 [.slice A' m1 c',.int .i64 i,.bool false,.slice none 0 0,.slice none 0 0,.int .i64 0,.int .i64 0,.slice none 0 0,.int .i64 0,.int .i64 0,.int .i64 0,.slice none 0 0,.bool false] from by rw [hw8];exact blk_set HG87.out 0 _)
        have HST:=z_ (show ∀k,k<wb.heap.size->k≠g8->some k≠(Value.slice An fn cn).ownBlock->w8.heap[k]? = wb.heap[k]? from fun k hl h8 ho=>by rw [hw8,Below.heap_setCell _ ⟨g8,0,none⟩ _ k h8];exact HGR.out.block k hl ho)
        have HSZ:=z_ (show wb.heap.size<=w8.heap.size from by
         have h1:=HGR.out.size
         have h2:=(Below.setCell (Below.refl 0 w7) (Nat.zero_le g8) (p:=⟨g8,0,none⟩) (.slice A' m1 c')).size
         rw [hw8]
         exact Nat.le_trans h1 h2)
        have HBL8:=z_ (show Below w.heap.size w w8 from by rw [hw8];exact Below.setCell HB7.out (by have:=HGG.out;show w.heap.size<=g8;omega) _)
        have HR8:=z_ (show RowsR w8 w.heap.size (.slice A' m1 c') (rows++[[.bool false,.slice D1 n.f1.length d1,.slice D2 n.f2.length d2,.int .i64 n.f3,.int .i64 n.f4,.slice D5 n.f5.length d5,.int .i64 n.f6,.int .i64 n.f7,.int .i64 n.f8,.slice D9 n.f9.length d9]]) from by
         rw [hw8]
         exact Kd.R_mono (Kd.R_step (Kd.R_reok (ok:=fun x=>some x=(Value.slice A' m1 c').ownBlock) rfl HR7.out (fun x e=>e.symm)) (fun k hk hl=>Below.heap_setCell _ ⟨g8,0,none⟩ _ k (by rintro rfl;exact Kd.R_ne HR7.out HG87.out (by decide) hk))) (fun _ _=>trivial))
        have HRK8:=z_ (show Kd.R (Kd.int .u8) 5 w8 w.heap.size (fun _=>True) (.slice Ak row.length ck) row from
         Kd.R_mono (Kd.R_step (Kd.R_reok (ok:=fun x=>some x=(Value.slice Ak row.length ck).ownBlock) rfl HRK.out (fun x e=>e.symm)) (fun k hk hl=>HST.out k hl (by rintro rfl;exact Kd.R_ne HRK.out HG85.out (by decide) hk) (fun he=>by
          obtain ⟨cells,hcl⟩:=Kd.R_typed HRK.out k hk.symm
          exact Kd.R_ne HR.out hcl (by decide) he))) (fun _ _=>trivial))
        have hZst : ∀k,Z4 k->k<wb.heap.size->w8.heap[k]? = wb.heap[k]? := fun k hk hl=>HST.out k hl (HZ4.out k hk).2.1 (HFb.out.sep k hk).2
        have HU1:=z_ (Kd.V_step (Kd.V_below HV1.out HB5.out) (w1:=w8) hZst)
        have HU2:=z_ (Kd.V_step (Kd.V_below HV2.out HB5.out) (w1:=w8) hZst)
        have HU5:=z_ (Kd.V_step (Kd.V_below HV5.out HB5.out) (w1:=w8) hZst)
        have HU9:=z_ (Kd.V_step (Kd.V_below HV9.out HB5.out) (w1:=w8) hZst)
        have HF8:=z_ (show ForksM w8 w.heap.size (.slice A' m1 c') Z4 (fs++[n]) from by
         refine ⟨⟨_,HR8.out,by rw [List.length_append,List.length_append,HRL.out.1];rfl,fun j m r hj hr=>?_⟩,fun k hk=>⟨Nat.lt_of_lt_of_le (HFb.out.sep k hk).1 HSZ.out,fun he=>?_⟩⟩
         ·rcases Nat.lt_or_ge j fs.length with hlt|hge
          ·rw [List.getElem?_append_left hlt] at hj
           rw [List.getElem?_append_left (by rw [HRL.out.1];exact hlt)] at hr
           exact (HRL.out.2 j m r hj hr).step (fun k hk hl=>hZst k hk hl) (fun _ hk=>hk)
          ·rw [List.getElem?_append_right hge] at hj
           rw [List.getElem?_append_right (by rw [HRL.out.1];exact hge),HRL.out.1] at hr
           obtain ⟨q,hq⟩ : ∃q,q=j-fs.length:=⟨_,rfl⟩
           rw [<-hq] at hj hr
           cases q with
           | zero=>
             obtain rfl:n=m:=by simpa using hj
             obtain rfl : [.bool false,.slice D1 n.f1.length d1,.slice D2 n.f2.length d2,.int .i64 n.f3,.int .i64 n.f4,.slice D5 n.f5.length d5,.int .i64 n.f6,.int .i64 n.f7,.int .i64 n.f8,.slice D9 n.f9.length d9]=r:=by simpa using hr
             exact ⟨D1,D2,D5,D9,d1,d2,d5,d9,by rw [HB0.out],HU1.out,HU2.out,HU5.out,HU9.out⟩
           | succ q=>simp at hj
         ·rcases HAT.out with h1|⟨b,h1,h2⟩
          ·rw [h1] at he
           exact (HFb.out.sep k hk).2 he
          ·rw [h1] at he
           have:=(HFb.out.sep k hk).1
           have:=Option.some.inj he
           omega)
        clear hw8 hZst z0 z1 z2 z3 z4 z5 z6 z7 z8 z9 z10 z11 z12 f0 f1 f2 f3 f4 f5 f6 f7 f8 f9 f10 f11 f12 n0 n1 n2 n3 n4 n5 n6 n7 n8 n9 s0 m0 m2 m3 m4 m5 m6 m7 m8 m9
        refine (ptree_below.calls 2 false D1 d1 n.f1 D2 d2 n.f2 n.f3 n.f4 D5 d5 n.f5 n.f6 n.f7 n.f8 D9 d9 n.f9 Ak ck row (belowB n row) w8 (Kd.V_reads' HU1.out).2.2 (Kd.V_reads' HV1.out).2.1 (Kd.V_reads' HU2.out).2.2 (Kd.V_reads' HV2.out).2.1 (Kd.V_reads' HU5.out).2.2 (Kd.V_reads' HV5.out).2.1 (Kd.V_reads' HU9.out).2.2 (Kd.V_reads' HV9.out).2.1 (Kd.R_reads' HRK8.out).2.2 HK3.out.2 (by have:=below_f 1 n row;rw [HB0.out] at this;exact this)).mono ?_
        rintro e w9 ⟨rfl,hb9⟩
        have HB9:=z_ hb9
        have hG:=HG88.out.below hb9
        obtain ⟨z0,z1,z2,z3,z4,z5,z6,z7,z8,z9,z10,z11,z12⟩:=hG.cells
        obtain ⟨f0,f1,f2,f3,f4,f5,f6,f7,f8,f9,f10,f11,f12⟩:=hG.frozen
        have HG89:=z_ hG
        clear hb9 hG
        go_wp2_with fail
        have hkid : ∃t',IsT cs (belowB n row) t'/\t'.h<t.h/\findT row id i t=(findT row id (belowB n row) t').cons n:=by
         have hT:=HT.out.1
         have hna:=HNA.out
         have hb0:=HB0.out
         cases t with
         | leaf m=>
           obtain rfl:m=n:=Option.some.inj (hT.1.symm.trans hna)
           rw [hT.2] at hb0
           cases hb0
         | fork m l r=>
           obtain rfl:m=n:=Option.some.inj (hT.1.symm.trans hna)
           unfold belowB
           by_cases hbit:bitP row m.f4=1
           ·rw [if_pos hbit]
            refine ⟨r,hT.2.2.2,?_,?_⟩
            ·show r.h<max l.h r.h+1
             omega
            ·show (if beginsB row m.f5 m.f4 then (if bitP row m.f4=1 then _ else _) else _)=_
             rw [if_pos HBG.out,if_pos hbit]
           ·rw [if_neg hbit]
            refine ⟨l,hT.2.2.1,?_,?_⟩
            ·show l.h<max l.h r.h+1
             omega
            ·show (if beginsB row m.f5 m.f4 then (if bitP row m.f4=1 then _ else _) else _)=_
             rw [if_pos HBG.out,if_neg hbit]
        obtain ⟨t',hkt,hkh,hkf⟩:=hkid
        have HKT:=z_ hkt
        have hko:findO row id root t0=(findO row id (belowB n row) (some t')).pre (fs++[n]):=by
         rw [HT.out.2.2.2]
         show (findT row id i t).pre fs=_
         rw [hkf]
         simp [Spot.pre,Spot.cons,findO]
        have HKO:=z_ hko
        obtain ⟨w10,hw10⟩ : ∃w10,w10=w9.setCell ⟨g8,1,none⟩ (.int .i64 (belowB n row)):=⟨_,rfl⟩
        have hG10:SpB w10 g8 [.slice A' m1 c',.int .i64 (belowB n row),.bool false,.slice none 0 0,.slice none 0 0,.int .i64 0,.int .i64 0,.slice none 0 0,.int .i64 0,.int .i64 0,.int .i64 0,.slice none 0 0,.bool false]:=by rw [hw10];exact blk_set HG89.out 1 _
        have hb10 : ∀k,k<w8.heap.size->k≠g8->w10.heap[k]? = w8.heap[k]? := fun k hl hk=>by rw [hw10,Below.heap_setCell _ ⟨g8,1,none⟩ _ k hk];exact HB9.out.block k hl
        have hs10:w8.heap.size<=w10.heap.size:=by rw [hw10];exact Nat.le_trans HB9.out.size (Below.setCell (Below.refl 0 w9) (Nat.zero_le g8) (p:=⟨g8,1,none⟩) _).size
        have hG6:SpB w10 g6 zeroSp:=by
         have h0:=((HG6.out.below HB4.out).below HB5.out)
         exact (hb10 g6 (Nat.lt_of_lt_of_le (blk_lt h0) HSZ.out) (by have:=HGG.out;omega)).trans ((HST.out g6 (blk_lt h0) (by have:=HGG.out;omega) (Kd.R_ne HR.out h0 (by decide))).trans h0)
        have hF10:ForksM w10 w.heap.size (.slice A' m1 c') Z4 (fs++[n]):=HF8.out.step hs10 (fun k hl hk=>hb10 k hl (by rintro rfl;rcases hk with hk|hk;exact (HZ4.out _ hk).2.1 rfl;exact Kd.R_ne HR8.out HG88.out (by decide) hk))
        have hR10:Kd.R (Kd.int .u8) 5 w10 w.heap.size (fun _=>True) (.slice Ak row.length ck) row:=
         Kd.R_mono (Kd.R_step (Kd.R_reok (ok:=fun x=>some x=(Value.slice Ak row.length ck).ownBlock) rfl HRK8.out (fun x e=>e.symm)) (fun k hk hl=>hb10 k hl (by rintro rfl;exact Kd.R_ne HRK8.out HG88.out (by decide) hk))) (fun _ _=>trivial)
        have hB10:Below w.heap.size w w10:=by rw [hw10];exact Below.setCell (below_step HBL8.out HB9.out) (by have:=HGG.out;show w.heap.size<=g8;omega) _
        have hz10:w3.heap.size<=w10.heap.size:=by
         have h1:=HB.out.2.1
         have h2:=HB4.out.size
         have h3:=HB5.out.size
         have h4:=HSZ.out
         omega
        have hhh:=HT.out.2.1
        have hhl:=HT.out.2.2.1
        have hhm:heightO (some t')<k1:=by show t'.h<k1;have:heightO (some t)=t.h:=rfl;omega
        have hhn:(fs++[n]).length+heightO (some t')<=heightO t0:=by rw [List.length_append];show fs.length+1+t'.h<=_;have:heightO (some t)=t.h:=rfl;omega
        rw [<-hw10]
        go_roundg k1
        case measure=>omega
        case rel=>exact ⟨belowB n row,some t',A',m1,c',fs++[n],Z4,⟨hG10⟩,⟨hG6⟩,⟨hF10,HZ4.out⟩,⟨HKT.out,hhm,hhn,HKO.out⟩,⟨hB10,hz10,hR10⟩⟩
end Go.Proofs.YtdeneoknjeegbaaGreatDoor.P
end
section
namespace Go.Proofs.YtdeneoknjeegbaaGreatDoor.P
open Go.RowKit YtdeneoknjeegbaaGreatDoorW.PrintWords YtdeneoknjeegbaaGreatDoorW.PrintLast YtdeneoknjeegbaaGreatDoorW.PrintMore
attribute [local go_sem] max2_int min2_int max_two min_two max_three min_three max_four min_four
def slices_Reverse_int_int.l0:Nat->List Int->Int->Int->Option (List Int)
 | 0,_,_,_=>none
 | k+1,x0,x2,x3=>if x2<x3 then (if 0<=x3 then (if x3<(x0.length:Int) then (if 0<=x2 then (if x2<(x0.length:Int) then (slices_Reverse_int_int.l0 k ((x0.set (x2:Int).toNat (rd x0 x3)).set (x3:Int).toNat (rd x0 x2)) (wrap64 (x2+1)) (wrap64 (x3-1))) else (none)) else (none)) else (none)) else (none)) else (some x0)
def slices_Reverse_int_int.f (k:Nat) (l0:List Int):Option (List Int):=slices_Reverse_int_int.l0 k l0 0 (wrap64 ((l0.length:Int)-1))
def slices_Reverse_int_int.T3:Bool×List (List Nat×List Nat):=(true,[([],[]),([],[]),([],[]),([],[]),([],[]),([],[]),([4,5],[4,5]),([6],[6]),([],[]),([],[]),([8,9],[8,9]),([10],[10]),([0,1,0,1,4,5,6,7,11],[0,1]),([12,7,0,1,4,5,6,7,11],[7,12]),([2,3,0,1,2,3,4,5,6,7,8,9,10,11,12,13],[2,3]),([14,11,13,0,1,2,3,4,5,6,7,8,9,10,11,12,13],[11,14])])
def slices_Reverse_int_int.B3:List Nat:=[0,0,0,0,0,0,48,112,0,0,768,1792,4083,8179,16383,32767]
theorem slices_Reverse_int_int.tab3:rtab .any (opsOf Tryz.f60 3)=slices_Reverse_int_int.T3:=by kernel_rfl
theorem slices_Reverse_int_int.bits3:waitsOk slices_Reverse_int_int.T3.2 slices_Reverse_int_int.B3=true:=by kernel_rfl
set_option maxHeartbeats 8000000 in
set_option maxRecDepth 100000 in
theorem slices_Reverse_int_int.calls2 (k:Nat) (P0_:Nat->Prop) (u9000_:Value) (l0:List Int) (r:List Int) (w0 w:World) (hB:Below w0.heap.size w0 w) (ho0:Kd.R (Kd.int .i64) 95 w w0.heap.size P0_ u9000_ l0) (h:slices_Reverse_int_int.f k l0=some r):
 Calls Tryz.prog 60 #[u9000_] w fun e w'=>e = .returned (.tuple #[])/\Kd.R (Kd.int .i64) 95 w' w0.heap.size (fun k_=>(P0_ k_\/w.heap.size<=k_)) u9000_ r/\Below w0.heap.size w0 w'/\Kept w w' (fun k_=>P0_ k_):=by
 have HO0:=z_ (show Kd.R (Kd.int .i64) 95 w w0.heap.size (fun k_=>(P0_ k_\/w.heap.size<=k_)) u9000_ l0 from Kd.R_mono ho0 (fun k_ hk=>(.inl hk)))
 have HK:=z_ (Kept.refl w (fun k_=>P0_ k_))
 have HW0:=z_ hB.size
 have HB:=z_ hB
 clear hB
 have H:(slices_Reverse_int_int.l0 k l0 0 (wrap64 ((l0.length:Int)-1)))=some r:=h
 clear h
 have H':=z_ H
 clear H
 obtain ⟨Ao2,co2,eo2⟩:=Kd.R_slice HO0.out
 subst eo2
 go_enter Tryz.func60,Tryz.ntmps60
 go_wp2
 go_loopg [2,3] k (fun kq v2 v3 w'=>∃(x0_1:List Int) (x2_1:Int) (x3_1:Int),v2 = .int .i64 x2_1/\v3 = .int .i64 x3_1/\Aside0 (slices_Reverse_int_int.l0 kq x0_1 x2_1 x3_1=some r)/\Aside0 (kq<=k)/\Aside0 (Kd.R (Kd.int .i64) 95 w' w0.heap.size (fun k_=>(P0_ k_\/w.heap.size<=k_)) (.slice Ao2 l0.length co2) x0_1)/\Aside0 (Kept w w' (fun k_=>P0_ k_))/\Aside0 (Below w0.heap.size w0 w'))
 case atStart=>exact ⟨(l0),(0),(wrap64 ((l0.length:Int)-1)),(by first|rfl|(simp;done)|(simp [*];done)),(by first|rfl|(simp;done)|(simp [*];done)),H',⟨Nat.le_refl _⟩,⟨by (with_reducible repeat (first|apply Kd.R_alloc|apply Kd.R_drewN|apply Kd.R_drew));exact HO0.out⟩,⟨by repeat (first|(with_reducible first|exact HK.out|apply Kept.alloc|apply Kept.drewN|apply Kept.drew)|exact HK.out)⟩,⟨by repeat (first|(with_reducible first|exact HB.out|apply below_alloc|apply pw_below_drewN|apply below_drew1)|exact HB.out)⟩⟩
 case round=>
  clear H'
  try clear p2
  obtain ⟨x0_1,x2_1,x3_1,rfl,rfl,HA,HK1,HO_0,HK,HB⟩:=hrel
  have hl0_1:=(Kd.R_reads' HO_0.out).1
  rw [hl0_1] at HO_0
  (try simp only [hl0_1])
  cases gk with
  | zero=>exact absurd HA.out (by simp [slices_Reverse_int_int.l0])
  | succ k1=>
    have H:=HA.out
    clear HA
    simp only [slices_Reverse_int_int.l0] at H
    by_cases c3:x2_1<x3_1
    ·rw [if_pos c3] at H
     have c3b0:decide (x2_1<x3_1)=true:=decide_eq_true c3
     clear c3
     by_cases c4:0<=x3_1
     ·rw [if_pos c4] at H
      have c4b0:decide (0<=x3_1)=true:=decide_eq_true c4
      clear c4
      by_cases c5:x3_1<(x0_1.length:Int)
      ·rw [if_pos c5] at H
       have c5b0:decide (x3_1<(x0_1.length:Int))=true:=decide_eq_true c5
       clear c5
       by_cases c6:0<=x2_1
       ·rw [if_pos c6] at H
        have c6b0:decide (0<=x2_1)=true:=decide_eq_true c6
        clear c6
        by_cases c7:x2_1<(x0_1.length:Int)
        ·rw [if_pos c7] at H
         have c7b0:decide (x2_1<(x0_1.length:Int))=true:=decide_eq_true c7
         clear c7
         obtain ⟨y242,hy242⟩ : ∃y_:List Int,y_=(x0_1.set (x2_1:Int).toNat (rd x0_1 x3_1)):=⟨_,rfl⟩
         replace H:(slices_Reverse_int_int.l0 k1 (y242.set (x3_1:Int).toNat (rd x0_1 x2_1)) (wrap64 (x2_1+1)) (wrap64 (x3_1-1)))=some r:=by first|(rw [hy242];with_reducible exact H)|(have H2_:=(Option.bind_some _ _).symm.trans H;rw [hy242];with_reducible exact H2_)|(have H2_:=(Option.bind_some _ _).symm.trans H;with_reducible exact H2_)|with_reducible exact H|(rw [hy242];exact H)|exact H
         have Ny242:=z_ hy242
         clear hy242
         obtain ⟨y243,hy243⟩ : ∃y_:List Int,y_=(y242.set (x3_1:Int).toNat (rd x0_1 x2_1)):=⟨_,rfl⟩
         replace H:(slices_Reverse_int_int.l0 k1 y243 (wrap64 (x2_1+1)) (wrap64 (x3_1-1)))=some r:=by first|(rw [hy243];with_reducible exact H)|(have H2_:=(Option.bind_some _ _).symm.trans H;rw [hy243];with_reducible exact H2_)|(have H2_:=(Option.bind_some _ _).symm.trans H;with_reducible exact H2_)|with_reducible exact H|(rw [hy243];exact H)|exact H
         have Ny243:=z_ hy243
         clear hy243
         have H':=z_ H
         clear H
         try go_wp2
         have n0_:=z_ (Kd.R_drew HO_0.out)
         have n1_:=z_ (Kept.drew HK.out)
         have n2_:=z_ (below_drew1 HB.out)
         clear HO_0
         clear HK
         clear HB
         have HO_0:=n0_
         have HK:=n1_
         have HB:=n2_
         clear n0_ n1_ n2_
         have p240:0<=(x3_1:Int):=of_decide_eq_true (by first|(with_reducible assumption)|assumption)
         have q240:x3_1<(x0_1.length:Int):=of_decide_eq_true (by first|(with_reducible assumption)|assumption)
         obtain ⟨ad240,e240,hx240_0⟩:=Kd.at_int (Kd.R_reads' HO_0.out).2.2 x3_1 p240 q240
         cases e240
         replace p240:=eq_true p240
         replace q240:=eq_true q240
         have p241:0<=(x2_1:Int):=of_decide_eq_true (by first|(with_reducible assumption)|assumption)
         have q241:x2_1<(x0_1.length:Int):=of_decide_eq_true (by first|(with_reducible assumption)|assumption)
         obtain ⟨ad241,e241,hx241_0⟩:=Kd.at_int (Kd.R_reads' HO_0.out).2.2 x2_1 p241 q241
         obtain rfl:ad240=ad241:=(by injection e241)
         replace p241:=eq_true p241
         replace q241:=eq_true q241
         have p8:0<=(x2_1:Int):=of_decide_eq_true (by first|(with_reducible assumption)|assumption)
         have q8:(x2_1:Int)<((x0_1.length:Int):Int):=of_decide_eq_true (by first|(with_reducible assumption)|assumption)
         obtain ⟨go8,co8,eo8,gb8,gl8,cl8,HG8⟩:=Kd.R_form HO_0.out (by omega)
         (first|cases eo8|(injection eo8 with ea_ en_ ec_;(first|subst ea_|(injection ea_ with ea_;subst ea_));subst ec_;clear en_))
         have GB8:=z_ gb8
         have GG8:=z_ HG8
         clear gb8 gl8 HG8
         have HMgo8:=z_ (show (P0_ go8\/w.heap.size<=go8) from (HO_0.out.1 _ rfl))
         (first|simp only [add_plain] at hx240_0|skip)
         (first|simp only [add_plain] at hx241_0|skip)
         obtain ⟨hx8_0,hf8_0⟩:=Kd.R_celln 0 HO_0.out (x2_1:Int) p8 q8
         replace p8:=eq_true p8
         replace q8:=eq_true q8
         have HP11:=Kd.R_putn HO_0.out (x2_1:Int) (rd x0_1 x3_1)
         rw [<-Ny242.out] at HP11
         have HQ11:=z_ HP11
         clear HP11
         have p9:0<=(x3_1:Int):=of_decide_eq_true (by first|(with_reducible assumption)|assumption)
         have q9:(x3_1:Int)<((x0_1.length:Int):Int):=of_decide_eq_true (by first|(with_reducible assumption)|assumption)
         obtain ⟨hx9_0,hf9_0⟩:=Kd.R_celln 0 HQ11.out (x3_1:Int) p9 q9
         replace p9:=eq_true p9
         replace q9:=eq_true q9
         have HP12:=Kd.R_putn HQ11.out (x3_1:Int) (rd x0_1 x2_1)
         rw [<-Ny243.out] at HP12
         have HQ12:=z_ HP12
         clear HP12
         refine start_ (n:=16) (S:=fun w'=>w'.cell? ⟨go8,(x3_1).toNat,none⟩=some (.int .i64 (rd x0_1 x3_1))/\w'.cell? ⟨go8,(x2_1).toNat,none⟩=some (.int .i64 (rd x0_1 x2_1))) (ds:=[13,15]) (bt_ 16 0) (by kernel_rfl) rfl rfl ⟨hx240_0,hx241_0⟩ (fun hHeld=>?_);refine with_tabW slices_Reverse_int_int.tab3 slices_Reverse_int_int.bits3 (fun HT_ HW_=>?_)
         generalize wr.drew=w10 at HO_0 HK HB GG8 HQ11 HQ12 hf8_0 hf9_0 hx240_0 hx241_0 hx8_0 hx9_0 hHeld ⊢
         refine pure_ (i:=0) (N:=some 14) (v:=?_) (a':=?_) (bt_ 16 1) rfl rfl (any_of HT_.out (by kernel_rfl)) (fun _ _ _ h=>h) (Or.inl ⟨by rfl,?_⟩) ?_ ?_
         rotate_left
         ·intro w'
          go_simp
          with_reducible rfl
         rotate_left
         ·simp only [pq_]
          rfl
         refine pure_ (i:=1) (N:=some 15) (v:=?_) (a':=?_) (bt_ 16 3) rfl rfl (any_of HT_.out (by kernel_rfl)) (fun _ _ _ h=>h) (Or.inl ⟨by rfl,?_⟩) ?_ ?_
         rotate_left
         ·intro w'
          go_simp
          with_reducible rfl
         rotate_left
         ·simp only [pq_]
          rfl
         refine pure_ (i:=2) (N:=some 16) (v:=?_) (a':=?_) (bt_ 16 7) rfl rfl (any_of HT_.out (by kernel_rfl)) (fun _ _ _ h=>h) (Or.inl ⟨by rfl,?_⟩) ?_ ?_
         rotate_left
         ·intro w'
          go_simp
          with_reducible rfl
         rotate_left
         ·simp only [pq_]
          rfl
         refine pure_ (i:=3) (N:=some 17) (v:=?_) (a':=?_) (bt_ 16 15) rfl rfl (any_of HT_.out (by kernel_rfl)) (fun _ _ _ h=>h) (Or.inl ⟨by rfl,?_⟩) ?_ ?_
         rotate_left
         ·intro w'
          go_simp
          with_reducible rfl
         rotate_left
         ·simp only [pq_]
          rfl
         refine pure_ (i:=4) (N:=some 18) (v:=?_) (a':=?_) (bt_ 16 31) rfl rfl (any_of HT_.out (by kernel_rfl)) (fun _ _ _ h=>h) (Or.inl ⟨by rfl,?_⟩) ?_ ?_
         rotate_left
         ·intro w'
          go_simp
          with_reducible rfl
         rotate_left
         ·simp only [pq_]
          rfl
         refine pure_ (i:=5) (N:=some 19) (v:=?_) (a':=?_) (bt_ 16 63) rfl rfl (any_of HT_.out (by kernel_rfl)) (fun _ _ _ h=>h) (Or.inl ⟨by rfl,?_⟩) ?_ ?_
         rotate_left
         ·intro w'
          go_simp
          with_reducible rfl
         rotate_left
         ·simp only [pq_]
          rfl
         refine pure_ (i:=6) (N:=some 20) (v:=?_) (a':=?_) (bt_ 16 127) rfl rfl (any_of HT_.out (by kernel_rfl)) (fun _ _ _ h=>h) (Or.inl ⟨by rfl,?_⟩) ?_ ?_
         rotate_left
         ·intro w'
          go_simp
          with_reducible rfl
         rotate_left
         ·simp only [pq_]
          rfl
         refine pure_ (i:=8) (N:=some 22) (v:=?_) (a':=?_) (bt_ 16 383) rfl rfl (any_of HT_.out (by kernel_rfl)) (fun _ _ _ h=>h) (Or.inl ⟨by rfl,?_⟩) ?_ ?_
         rotate_left
         ·intro w'
          go_simp
          with_reducible rfl
         rotate_left
         ·simp only [pq_]
          rfl
         refine pure_ (i:=9) (N:=some 23) (v:=?_) (a':=?_) (bt_ 16 895) rfl rfl (any_of HT_.out (by kernel_rfl)) (fun _ _ _ h=>h) (Or.inl ⟨by rfl,?_⟩) ?_ ?_
         rotate_left
         ·intro w'
          go_simp
          with_reducible rfl
         rotate_left
         ·simp only [pq_]
          rfl
         refine pure_ (i:=10) (N:=some 24) (v:=?_) (a':=?_) (bt_ 16 1919) rfl rfl (any_of HT_.out (by kernel_rfl)) (fun _ _ _ h=>h) (Or.inl ⟨by rfl,?_⟩) ?_ ?_
         rotate_left
         ·intro w'
          go_simp
          with_reducible rfl
         rotate_left
         ·simp only [pq_]
          rfl
         refine take_ (i:=7) (N:=some 21) (v:=?_) (a':=?_) (bt_ 16 2047) rfl rfl (take_ofW HT_.out HW_.out (by kernel_rfl)) (fun _ _ _ h=>h) (Or.inl ⟨by rfl,?_⟩) hHeld ?_ ?_
         rotate_left
         ·rintro w' ⟨s0,s1⟩
          go_simp
          with_reducible rfl
         rotate_left
         ·simp only [pq_]
          rfl
         refine take_ (i:=11) (N:=some 25) (v:=?_) (a':=?_) (bt_ 16 4095) rfl rfl (take_ofW HT_.out HW_.out (by kernel_rfl)) (fun _ _ _ h=>h) (Or.inl ⟨by rfl,?_⟩) hHeld ?_ ?_
         rotate_left
         ·rintro w' ⟨s0,s1⟩
          go_simp
          with_reducible rfl
         rotate_left
         ·simp only [pq_]
          rfl
         refine pure_ (i:=12) (N:=some 26) (v:=?_) (a':=?_) (bt_ 16 8191) rfl rfl (any_of HT_.out (by kernel_rfl)) (fun _ _ _ h=>h) (Or.inl ⟨by rfl,?_⟩) ?_ ?_
         rotate_left
         ·intro w'
          go_simp
          with_reducible rfl
         rotate_left
         ·simp only [pq_]
          rfl
         refine last_ (i:=13) (N:=none) (bt_ 16 16383) rfl rfl (one_of HT_.out (by kernel_rfl)) (by decide) (fun K hK=>?_)
         refine skip_ (w1:=?_) (by rfl) rfl ?_ ?_
         rotate_left
         ·go_simp
          rfl
         refine hK.out _ _ ?_
         clear hK K
         refine pure_ (i:=14) (N:=some 27) (v:=?_) (a':=?_) (bt_ 16 32767) rfl rfl (any_of HT_.out (by kernel_rfl)) (fun _ _ _ h=>h) (Or.inl ⟨by rfl,?_⟩) ?_ ?_
         rotate_left
         ·intro w'
          go_simp
          with_reducible rfl
         rotate_left
         ·simp only [pq_]
          rfl
         refine last_ (i:=15) (N:=none) (bt_ 16 65535) rfl rfl (one_of HT_.out (by kernel_rfl)) (by decide) (fun K hK=>?_)
         refine skip_ (w1:=?_) (by rfl) rfl ?_ ?_
         rotate_left
         ·go_simp
          rfl
         refine hK.out _ _ ?_
         clear hK K
         refine done_ (done_of HT_.out (by kernel_rfl)) ?_
         try go_wp2
         (try simp only [<-hl0_1])
         go_roundg k1
         case measure=>have:=HK1.out;omega
         case rel=>exact ⟨(y243),(wrap64 (x2_1+1)),(wrap64 (x3_1-1)),(by first|rfl|(simp;done)|(simp [*];done)),(by first|rfl|(simp;done)|(simp [*];done)),H',⟨by have:=HK1.out;omega⟩,⟨by (try simp only [hl0_1]);(with_reducible repeat (first|apply Kd.R_alloc|apply Kd.R_drewN|apply Kd.R_drew));exact HQ12.out⟩,⟨by repeat (first|(with_reducible first|exact HK.out|apply Kept.alloc|apply Kept.drewN|apply Kept.drew|refine Kept.setCell ?_ HMgo8.out _|refine Kept.setCell ?_ HMgo8.out _)|exact HK.out)⟩,⟨by repeat (first|(with_reducible first|exact HB.out|apply below_alloc|apply pw_below_drewN|apply below_drew1|refine below_set ?_ GB8.out|refine below_set ?_ GB8.out)|exact HB.out)⟩⟩
        ·rw [if_neg c7] at H
         exact absurd H (by simp)
       ·rw [if_neg c6] at H
        exact absurd H (by simp)
      ·rw [if_neg c5] at H
       exact absurd H (by simp)
     ·rw [if_neg c4] at H
      exact absurd H (by simp)
    ·rw [if_neg c3] at H
     have c3b0:decide (x2_1<x3_1)=false:=decide_eq_false c3
     clear c3
     obtain rfl:=Option.some.inj H
     go_wp2
     first|go_end0|((try simp only [Exit.inBlock,Exit.then]);refine bodyPost_ret (results_none rfl _ _ _) rfl ?_)
     exact ⟨by first|rfl|(simp [errW_none,errW_some]<;>rfl)|(simp [*,errW_none,errW_some]<;>rfl),(by first|exact (by (with_reducible repeat (first|apply Kd.R_alloc|apply Kd.R_drewN|apply Kd.R_drew));exact HO_0.out)|(simp only [hl0_1];exact (by (with_reducible repeat (first|apply Kd.R_alloc|apply Kd.R_drewN|apply Kd.R_drew));exact HO_0.out))),by repeat (first|(with_reducible first|exact HB.out|apply below_alloc|apply pw_below_drewN|apply below_drew1)|exact HB.out),by repeat (first|(with_reducible first|exact HK.out|apply Kept.alloc|apply Kept.drewN|apply Kept.drew)|exact HK.out)⟩
end Go.Proofs.YtdeneoknjeegbaaGreatDoor.P
end
