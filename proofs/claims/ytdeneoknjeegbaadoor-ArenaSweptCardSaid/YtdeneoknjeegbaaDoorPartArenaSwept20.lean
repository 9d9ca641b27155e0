/- Lemmas of this claim, part 20. -/
import Derived.Test.YtdeneoknjeegbaaDoorPartArenaSwept19
import Derived.Test.YtdeneoknjeegbaaDoorPartArenaSwept8
import Derived.WideShapes
import Derived.Test.YtdeneoknjeegbaaDoorPartArenaSwept18
import Derived.SizedLaws
import Derived.ChangeSlices
section
set_option linter.unusedVariables false
set_option linter.unusedSimpArgs false
namespace Go.Proofs.YtdeneoknjeegbaaDoor.P
open Go.RowKit Go.ChangeShapes Go.WideShapes Go.Proofs.YtdeneoknjeegbaaDoorW.PrintWords Go.Proofs.YtdeneoknjeegbaaDoorW.PrintLast Go.Proofs.YtdeneoknjeegbaaDoorW.PrintMore
theorem opensByte : Opens Tryd.prog 5 (Kd.int .u8) (fun n => (Lit.int .u8 n).wf = true) := Opens.int Tryd.underlying5 (by kernel_rfl)
theorem opensInt : Opens Tryd.prog 3 (Kd.int .i64) (fun n => (Lit.int .i64 n).wf = true) := Opens.int Tryd.underlying3 (by kernel_rfl)
theorem opensBytes : Opens Tryd.prog 31 (Kd.slice 5 (Kd.int .u8)) (fun xs => xs.length * Tryd.prog.bytesOf 5 ≤ reachBytes ∧ ∀ a, a ∈ xs → (Lit.int .u8 a).wf = true) := Opens.slice Tryd.underlying31 (by kernel_rfl) opensByte
theorem opensInts : Opens Tryd.prog 32 (Kd.slice 3 (Kd.int .i64)) (fun xs => xs.length * Tryd.prog.bytesOf 3 ≤ reachBytes ∧ ∀ a, a ∈ xs → (Lit.int .i64 a).wf = true) := Opens.slice Tryd.underlying32 (by kernel_rfl) opensInt
theorem wfB {l : List Int} (h : ∀ x ∈ l, (Lit.int .u8 x).wf = true) : BytesOk l := by
  intro x hx
  have := h x hx
  simp only [Lit.wf, IntKind.min, IntKind.max, IntKind.signed, IntKind.bits, Bool.and_eq_true, decide_eq_true_eq] at this
  simp at this
  omega
theorem wfI {a : Int} (h : (Lit.int .i64 a).wf = true) : -9223372036854775808 ≤ a ∧ a < 9223372036854775808 := by
  simp only [Lit.wf, IntKind.min, IntKind.max, IntKind.signed, IntKind.bits, Bool.and_eq_true, decide_eq_true_eq, if_true] at h
  omega
theorem each_mem {H : Type} {P : Program} : ∀ {ts : List TypeId} {ds : List (DataW H)} (h : (DataW.weightsEach P ts ds).all (· ≤ reachBytes) = true) (j : Nat) (t : TypeId) (d : DataW H), ts[j]? = some t → ds[j]? = some d → ∀ n ∈ d.weights P t, n ≤ reachBytes
  | [], _, _, j, t, d, ht, _ => by simp at ht
  | t0 :: ts, [], _, j, t, d, _, hd => by simp at hd
  | t0 :: ts, d0 :: ds, h, j, t, d, ht, hd => by
    simp only [DataW.weightsEach, List.all_append, Bool.and_eq_true] at h
    cases j with
    | zero =>
      obtain rfl := Option.some.inj ht
      obtain rfl := Option.some.inj hd
      intro n hn
      have := List.all_eq_true.1 h.1 n hn
      simpa using this
    | succ j => exact each_mem h.2 j t d (by simpa using ht) (by simpa using hd)
end Go.Proofs.YtdeneoknjeegbaaDoor.P
end
section
set_option linter.unusedVariables false
set_option linter.unusedSimpArgs false
namespace Go.Proofs.YtdeneoknjeegbaaDoor.P
open Go.RowKit Go.ChangeShapes Go.WideShapes Go.Proofs.YtdeneoknjeegbaaDoor.Pure Go.Proofs.YtdeneoknjeegbaaDoorW.PrintWords Go.Proofs.YtdeneoknjeegbaaDoorW.PrintLast Go.Proofs.YtdeneoknjeegbaaDoorW.PrintMore
theorem opensDo : Opens Tryd.prog 34 kDo DoOk := by
  have h := (Opens.struct (P := Tryd.prog) (t := 34) Tryd.underlying34 (by kernel_rfl) (OpensF.cons rfl rfl opensInt rfl (OpensF.cons rfl rfl opensInt rfl (OpensF.cons rfl rfl opensInt rfl (OpensF.cons rfl rfl opensInt rfl (OpensF.cons rfl rfl opensBytes rfl (OpensF.cons rfl rfl opensBytes rfl (OpensF.one rfl rfl opensInts)))))))).iso (fun x : DoS => (x.a, x.b, x.c, x.d, x.x, x.y, x.r)) (fun y => ⟨y.1, y.2.1, y.2.2.1, y.2.2.2.1, y.2.2.2.2.1, y.2.2.2.2.2.1, y.2.2.2.2.2.2⟩) (fun _ => rfl)
  refine h.imp fun x hx => ?_
  obtain ⟨h0, h1, h2, h3, h4, h5, h6⟩ := hx
  exact ⟨wfB h4.2, wfB h5.2, by have h3' : x.d < 9223372036854775808 := (wfI h3).2; omega⟩
theorem opensDos : Opens Tryd.prog 22 (Kd.slice 34 kDo) (fun xs => xs.length * Tryd.prog.bytesOf 34 ≤ reachBytes ∧ ∀ a, a ∈ xs → DoOk a) := Opens.slice Tryd.underlying22 (by kernel_rfl) opensDo
section
variable {H : Type} {enc : TypeId × Value → H} {w : World} {base : Nat} {spare : Nat → Bool} {held : Bool} {r : Go.Reach} {b0 : Nat} {v : Value} {d : DataW H} {p : List MemPlace}
set_option maxRecDepth 100000 in
theorem dos_param (hv : Value.okWide Tryd.prog w r b0 22 v) (h : DataW.Trod enc Tryd.prog w base spare held 22 v d p) (hw : ∀ n ∈ d.weights Tryd.prog 22, n ≤ reachBytes) :
    ∃ (A : Option Addr) (c : Nat) (xs : List DoS), v = .slice A xs.length c ∧ xs.length ≤ c ∧ Kd.C kDo w A xs.length xs ∧ ∀ a ∈ xs, DoOk a := by
  obtain ⟨A, len, cap, rfl⟩ := okWide_slice Tryd.underlying22 hv
  obtain ⟨fuel, hf⟩ := h
  obtain ⟨xs, rfl, hl, hC, hwf⟩ := opensDos.param hf hw
  exact ⟨A, cap, xs, rfl, hl, hC, hwf.2⟩
end
end Go.Proofs.YtdeneoknjeegbaaDoor.P
end
section
namespace Go.Proofs.YtdeneoknjeegbaaDoorW.PrintWords
open Go.ChangeShapes Go.WideShapes
end Go.Proofs.YtdeneoknjeegbaaDoorW.PrintWords
end
