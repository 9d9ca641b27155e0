/- Lemmas of this claim, part 14. -/
import Derived.Test.YtdeneoknjeegbaaDoorPartPtreeStays13
import Derived.SizedLaws
import Derived.ChangeSlices
set_option linter.unusedVariables false
set_option linter.unusedSimpArgs false
section
namespace Go.Proofs.YtdeneoknjeegbaaDoor.P
open Go.RowKit Go.ChangeShapes Go.WideShapes YtdeneoknjeegbaaDoor.Pure YtdeneoknjeegbaaDoorW.PrintWords YtdeneoknjeegbaaDoorW.PrintLast YtdeneoknjeegbaaDoorW.PrintMore
abbrev PutOk (x : S59) : Prop := BytesOk x.f0 /\ BytesOk x.f1
theorem opensPut : Opens Tryd.prog 59 k59 PutOk := by
  have h := (Opens.struct (P := Tryd.prog) (t := 59) Tryd.underlying59 (by kernel_rfl) (OpensF.cons rfl rfl opensBytes rfl (OpensF.cons rfl rfl opensBytes rfl (OpensF.one rfl rfl opensInt)))).iso (fun x : S59 => (x.f0, x.f1, x.f2)) (fun y => ⟨y.1, y.2.1, y.2.2⟩) (fun _ => rfl)
  refine h.imp fun x hx => ?_
  obtain ⟨h0, h1, h2⟩ := hx
  exact ⟨wfB h0.2, wfB h1.2⟩
theorem opensPuts : Opens Tryd.prog 57 (Kd.slice 59 k59) (fun xs => xs.length * Tryd.prog.bytesOf 59 <= reachBytes /\ ∀ a, a ∈ xs -> PutOk a) := Opens.slice Tryd.underlying57 (by kernel_rfl) opensPut
section
variable {H : Type} {enc : TypeId × Value -> H} {w : World} {base : Nat} {spare : Nat -> Bool} {held : Bool} {r : Go.Reach} {b0 : Nat} {v : Value} {d : DataW H} {p : List MemPlace}
set_option maxRecDepth 100000 in
theorem puts_param (hv : Value.okWide Tryd.prog w r b0 57 v) (h : DataW.Trod enc Tryd.prog w base spare held 57 v d p) (hw : ∀ n ∈ d.weights Tryd.prog 57, n <= reachBytes) :
    ∃ (A : Option Addr) (c : Nat) (xs : List S59), v = .slice A xs.length c /\ xs.length <= c /\ Kd.C k59 w A xs.length xs /\ ∀ a ∈ xs, PutOk a := by
  obtain ⟨A, len, cap, rfl⟩ := okWide_slice Tryd.underlying57 hv
  obtain ⟨fuel, hf⟩ := h
  obtain ⟨xs, rfl, hl, hC, hwf⟩ := opensPuts.param hf hw
  exact ⟨A, cap, xs, rfl, hl, hC, hwf.2⟩
set_option maxRecDepth 100000 in
theorem put_param (hv : Value.okWide Tryd.prog w r b0 59 v) (h : DataW.Trod enc Tryd.prog w base spare held 59 v d p) (hw : ∀ n ∈ d.weights Tryd.prog 59, n <= reachBytes) :
    ∃ (A1 : Option Addr) (c1 : Nat) (id : List Int) (A2 : Option Addr) (c2 : Nat) (key : List Int) (s : Int), v = .agg #[.slice A1 id.length c1, .slice A2 key.length c2, .int .i64 s] /\ Kd.C (Kd.int .u8) w A1 id.length id /\ id.length <= c1 /\ BytesOk id /\ Kd.C (Kd.int .u8) w A2 key.length key /\ key.length <= c2 /\ BytesOk key := by
  obtain ⟨cs, rfl, hsz⟩ := okWide_struct Tryd.underlying59 hv
  obtain ⟨fuel, hf⟩ := h
  obtain ⟨x, hK, ho⟩ := (Opens.struct (P := Tryd.prog) (t := 59) Tryd.underlying59 (by kernel_rfl) (OpensF.cons rfl rfl opensBytes rfl (OpensF.cons rfl rfl opensBytes rfl (OpensF.one rfl rfl opensInt)))).get (cs := cs.toList) hf hw
  obtain ⟨_, _, h1, ⟨A1, c1, rfl, l1, g1⟩, ⟨_, _, rfl, ⟨A2, c2, rfl, l2, g2⟩, rfl⟩⟩ := hK
  exact ⟨A1, c1, _, A2, c2, _, _, congrArg Value.agg (Array.ext' h1), g1, l1, wfB ho.1.2, g2, l2, wfB ho.2.1.2⟩
end
end Go.Proofs.YtdeneoknjeegbaaDoor.P
end
section
namespace Go.Proofs.YtdeneoknjeegbaaDoorW.PrintWords
open Go.ChangeShapes Go.WideShapes

end Go.Proofs.YtdeneoknjeegbaaDoorW.PrintWords
end
