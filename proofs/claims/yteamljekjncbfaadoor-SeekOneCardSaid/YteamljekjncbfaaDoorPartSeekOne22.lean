/- Lemmas of this claim, part 22. -/
import Derived.Test.YteamljekjncbfaaDoorPartSeekOne2
import Derived.ChangeArms
import Derived.SizedLaws
import Derived.Test.YteamljekjncbfaaDoorPartSeekOne20
import Derived.WideShapes
import Derived.ChangeSlices
section
set_option linter.unusedVariables false
set_option linter.unusedSimpArgs false
namespace Go.Proofs.YteamljekjncbfaaDoor.P
open Go.RowKit Go.Proofs.YteamljekjncbfaaDoorW.PrintWords Go.Proofs.YteamljekjncbfaaDoorW.PrintLast Go.Proofs.YteamljekjncbfaaDoorW.PrintMore
theorem list_of {α : Type} (n : Nat) (R : Nat → α → Prop) (h : ∀ i, i < n → ∃ a, R i a) : ∃ xs : List α, xs.length = n ∧ ∀ i a, xs[i]? = some a → R i a := by
  induction n with
  | zero => exact ⟨[], rfl, fun i a hi => by simp at hi⟩
  | succ n ih =>
    obtain ⟨xs, hl, hx⟩ := ih (fun i hi => h i (by omega))
    obtain ⟨a, ha⟩ := h n (by omega)
    refine ⟨xs ++ [a], by simp [hl], fun i b hb => ?_⟩
    by_cases hi : i < n
    · rw [List.getElem?_append_left (by omega)] at hb
      exact hx i b hb
    · rw [List.getElem?_append_right (by omega)] at hb
      have h0 : i - xs.length = 0 := by
        have := (List.getElem?_eq_some_iff.1 hb).1
        simp at this
        omega
      rw [h0] at hb
      have hin : i = n := by omega
      subst hin
      have : a = b := by simpa using hb
      subst this
      exact ha
theorem weightsAll_mem {H : Type} {P : Program} {e : TypeId} {l : List (DataW H)} {d : DataW H} (hd : d ∈ l) {n : Nat} (hn : n ∈ d.weights P e) : n ∈ DataW.weightsAll P e l := by
  induction l with
  | nil => simp at hd
  | cons a l ih =>
    simp only [DataW.weightsAll, List.mem_append]
    rcases List.mem_cons.1 hd with rfl | hd
    · exact .inl hn
    · exact .inr (ih hd)
structure Opens (P : Program) (t : Nat) {α : Type} (d : Kd α) (wf : α → Prop) : Prop where
  size : P.cellsOf t = d.sz
  get : ∀ {H : Type} {enc : TypeId × Value → H} {w : World} {base : Nat} {spare : Nat → Bool} {held : Bool} {fuel : Nat} {cs : List Value} {x : DataW H × List MemPlace},
    DataW.trod enc P w base spare held fuel t cs = some x → (∀ n ∈ x.1.weights P t, n ≤ reachBytes) → ∃ a, d.K w a cs ∧ wf a
theorem Opens.imp {P : Program} {t : Nat} {α : Type} {d : Kd α} {wf wf' : α → Prop} (h : Opens P t d wf) (hi : ∀ a, wf a → wf' a) : Opens P t d wf' :=
  ⟨h.size, fun h1 h2 => by
    obtain ⟨a, h3, h4⟩ := h.get h1 h2
    exact ⟨a, h3, hi a h4⟩⟩
theorem Opens.int {P : Program} {t : Nat} {k : IntKind} (hu : P.underlying t = some (.int k)) (hc : P.cellsOf t = 1) : Opens P t (Kd.int k) (fun n => (Lit.int k n).wf = true) :=
  ⟨hc, fun h _ => by
    obtain ⟨n, rfl, _, hw⟩ := DataW.trod_int hu h
    exact ⟨n, rfl, hw⟩⟩
theorem Opens.bool {P : Program} {t : Nat} (hu : P.underlying t = some .bool) (hc : P.cellsOf t = 1) : Opens P t Kd.bool (fun _ => True) :=
  ⟨hc, fun h _ => by
    obtain ⟨n, rfl, _⟩ := DataW.trod_bool hu h
    exact ⟨n, rfl, trivial⟩⟩
theorem Opens.slice {P : Program} {t e : Nat} {α : Type} {d : Kd α} {wf : α → Prop} (hu : P.underlying t = some (.slice e)) (hc : P.cellsOf t = 1) (he : Opens P e d wf) :
    Opens P t (Kd.slice e d) (fun xs => xs.length * P.bytesOf e ≤ reachBytes ∧ ∀ a, a ∈ xs → wf a) := by
  refine ⟨hc, fun {H enc w base spare held fuel cs x} h hw => ?_⟩
  rcases DataW.trod_slice hu h with ⟨rfl, rfl⟩ | ⟨ad, len, cap, elems, rest, n, _, rfl, rfl, hb, hl, hm, hlen, hel, hsp, hns⟩
  · exact ⟨[], ⟨none, 0, rfl, Nat.le_refl _, Kd.C_nil d w⟩, by simp, by simp⟩
  · have hwa : ∀ d0 ∈ elems.map (·.1), ∀ m ∈ DataW.weights P e d0, m ≤ reachBytes := fun d0 hd0 m hm0 => hw m (by
      simp only [DataW.weights, hu, List.mem_cons, List.mem_append]
      exact .inr (.inl (weightsAll_mem hd0 hm0)))
    have hsz : (elems.length + rest.length) * P.bytesOf e ≤ reachBytes := hw _ (by simp [DataW.weights, hu])
    obtain ⟨xs, hxl, hx⟩ := list_of len (fun i a => wf a ∧ ∃ c, c.length = d.sz ∧ d.K w a c ∧ ∀ j u, c[j]? = some u → w.cell? (ad.add (i * d.sz + j)) = some u) (fun i hi => by
      have h1 := hel i hi
      have hi' : i < elems.length := by omega
      rw [List.getElem?_eq_getElem hi', Option.bind_eq_some_iff] at h1
      obtain ⟨c, hc1, hc2⟩ := h1
      obtain ⟨_, hlc, hcell⟩ := World.cells?_some hc1
      obtain ⟨a, hK, hwf⟩ := he.get hc2 (fun m hm0 => hwa _ (List.mem_map.2 ⟨_, List.getElem_mem hi', rfl⟩) m hm0)
      refine ⟨a, hwf, c, d.K_len hK, hK, fun j u hj => ?_⟩
      have hj' : j < c.length := (List.getElem?_eq_some_iff.1 hj).1
      have h2 := hcell j (by omega)
      rw [hj] at h2
      rw [← h2, he.size]
      congr 1
      unfold Addr.add
      by_cases h3 : i * d.sz = 0 <;> by_cases h4 : j = 0 <;> simp [h3, h4, Nat.add_assoc])
    refine ⟨xs, ⟨some ad, cap, by rw [hxl], by omega, ⟨rfl, by unfold maxLen at hm; omega, fun _ => ⟨ad, rfl, fun j p hj => ?_⟩⟩⟩, ?_, fun a ha => ?_⟩
    · obtain ⟨_, c, h1, h2, h3⟩ := hx j p hj
      exact ⟨c, h1, h2, h3⟩
    · rw [hxl]
      refine Nat.le_trans (Nat.mul_le_mul_right _ ?_) hsz
      omega
    · obtain ⟨i, hi⟩ := List.getElem?_of_mem ha
      exact (hx i a hi).1
structure OpensF (P : Program) (fs : List Field) (off : Nat) {α : Type} (d : Kd α) (wf : α → Prop) : Prop where
  get : ∀ {H : Type} {enc : TypeId × Value → H} {w : World} {base : Nat} {spare : Nat → Bool} {held : Bool} {fuel : Nat} {cs : List Value} {xs : List (DataW H × List MemPlace)},
    cs.length = off + d.sz → xs.length = fs.length → (∀ (i : Nat) (f : Field), fs[i]? = some f → DataW.trod enc P w base spare held fuel f.type ((cs.drop f.offset).take (P.cellsOf f.type)) = xs[i]?) →
    (∀ n ∈ DataW.weightsEach P (fs.map (·.type)) (xs.map (·.1)), n ≤ reachBytes) → ∃ a, d.K w a (cs.drop off) ∧ wf a
theorem OpensF.one {P : Program} {f : Field} {α : Type} {d : Kd α} {wf : α → Prop} {t off : Nat} (ht : f.type = t) (ho : f.offset = off) (h : Opens P t d wf) : OpensF P [f] off d wf := by
  subst ht
  subst ho
  refine ⟨fun {H enc w base spare held fuel cs xs} hl hxl hx hw => ?_⟩
  match xs, hxl with
  | [x], _ =>
    have h1 := hx 0 f rfl
    rw [List.take_of_length_le (by rw [List.length_drop, h.size]; omega)] at h1
    exact h.get h1 (fun n hn => hw n (by simp only [List.map_cons, List.map_nil, DataW.weightsEach, List.mem_append]; exact .inl hn))
theorem OpensF.cons {P : Program} {f : Field} {fs : List Field} {α β : Type} {d : Kd α} {d' : Kd β} {wf : α → Prop} {wf' : β → Prop} {t off off' : Nat} (ht : f.type = t) (ho : f.offset = off) (h : Opens P t d wf)
    (ho' : off + d.sz = off') (hr : OpensF P fs off' d' wf') : OpensF P (f :: fs) off (Kd.pair d d') (fun x => wf x.1 ∧ wf' x.2) := by
  subst ht
  subst ho
  subst ho'
  refine ⟨fun {H enc w base spare held fuel cs xs} hl hxl hx hw => ?_⟩
  match xs, hxl with
  | x :: xs, hxl =>
    have hl' : cs.length = f.offset + (d.sz + d'.sz) := hl
    have h1 := hx 0 f rfl
    obtain ⟨a, ha, hwa⟩ := h.get h1 (fun n hn => hw n (by simp only [List.map_cons, DataW.weightsEach, List.mem_append]; exact .inl hn))
    obtain ⟨b, hb, hwb⟩ := hr.get (by rw [hl']; omega) (by simpa using hxl) (fun i g hg => by simpa using hx (i + 1) g (by simpa using hg)) (fun n hn => hw n (by simp only [List.map_cons, DataW.weightsEach, List.mem_append]; exact .inr hn))
    refine ⟨(a, b), ⟨_, _, ?_, ha, hb⟩, hwa, hwb⟩
    rw [h.size]
    have := List.take_append_drop d.sz (cs.drop f.offset)
    rw [List.drop_drop] at this
    exact this.symm
theorem Opens.struct {P : Program} {t : Nat} {fs : Array Field} {α : Type} {d : Kd α} {wf : α → Prop} (hu : P.underlying t = some (.struct fs)) (hc : P.cellsOf t = d.sz) (h : OpensF P fs.toList 0 d wf) : Opens P t d wf := by
  refine ⟨hc, fun {H enc w base spare held fuel cs x} h1 hw => ?_⟩
  obtain ⟨xs, n, _, rfl, hl, hxl, hx⟩ := DataW.trod_struct hu h1
  have := h.get (cs := cs) (by rw [hl, hc]; omega) (by simpa using hxl) (fun i f hf => hx i f (by simpa using hf)) (fun n hn => hw n (by simp only [DataW.weights, hu]; exact hn))
  simpa using this
theorem Opens.iso {P : Program} {t : Nat} {α β : Type} {d : Kd α} {wf : α → Prop} (h : Opens P t d wf) (f : β → α) (g : α → β) (hfg : ∀ a, f (g a) = a) : Opens P t (Kd.iso d f) (fun b => wf (f b)) :=
  ⟨h.size, fun h1 hw => by
    obtain ⟨a, ha, hwa⟩ := h.get h1 hw
    exact ⟨g a, by show d.K _ (f (g a)) _; rw [hfg]; exact ha, by show wf (f (g a)); rw [hfg]; exact hwa⟩⟩
theorem Opens.param {P : Program} {t e : Nat} {α : Type} {d : Kd α} {wf : List α → Prop} (ho : Opens P t (Kd.slice e d) wf) {H : Type} {enc : TypeId × Value → H} {w : World} {base : Nat} {spare : Nat → Bool} {held : Bool} {fuel : Nat}
    {A : Option Addr} {len cap : Nat} {x : DataW H × List MemPlace} (h : DataW.trod enc P w base spare held fuel t [.slice A len cap] = some x) (hw : ∀ n ∈ x.1.weights P t, n ≤ reachBytes) :
    ∃ xs : List α, len = xs.length ∧ xs.length ≤ cap ∧ d.C w A xs.length xs ∧ wf xs := by
  obtain ⟨xs, ⟨A', c, he, hl, hC⟩, hwf⟩ := ho.get h hw
  injection he with he _
  injection he with h1 h2 h3
  subst h1
  subst h3
  exact ⟨xs, h2, hl, hC, hwf⟩
end Go.Proofs.YteamljekjncbfaaDoor.P
end
section
set_option linter.unusedVariables false
set_option linter.unusedSimpArgs false
namespace Go.Proofs.YteamljekjncbfaaDoor.P
open Go.RowKit Go.ChangeShapes Go.WideShapes Go.Proofs.YteamljekjncbfaaDoor.Pure Go.Proofs.YteamljekjncbfaaDoorW.PrintWords Go.Proofs.YteamljekjncbfaaDoorW.PrintLast Go.Proofs.YteamljekjncbfaaDoorW.PrintMore
theorem opensByte : Opens Tryd.prog 5 (Kd.int .u8) (fun n => (Lit.int .u8 n).wf = true) := Opens.int Tryd.underlying5 (by kernel_rfl)
theorem opensInt : Opens Tryd.prog 3 (Kd.int .i64) (fun n => (Lit.int .i64 n).wf = true) := Opens.int Tryd.underlying3 (by kernel_rfl)
theorem opensBytes : Opens Tryd.prog 33 (Kd.slice 5 (Kd.int .u8)) (fun xs => xs.length * Tryd.prog.bytesOf 5 ≤ reachBytes ∧ ∀ a, a ∈ xs → (Lit.int .u8 a).wf = true) := Opens.slice Tryd.underlying33 (by kernel_rfl) opensByte
theorem opensRows : Opens Tryd.prog 38 (Kd.slice 33 (Kd.slice 5 (Kd.int .u8))) (fun xss => xss.length * Tryd.prog.bytesOf 33 ≤ reachBytes ∧ ∀ xs, xs ∈ xss → (xs.length * Tryd.prog.bytesOf 5 ≤ reachBytes ∧ ∀ a, a ∈ xs → (Lit.int .u8 a).wf = true)) := Opens.slice Tryd.underlying38 (by kernel_rfl) opensBytes
theorem wfB {l : List Int} (h : ∀ x ∈ l, (Lit.int .u8 x).wf = true) : BytesOk l := by
  intro x hx
  have := h x hx
  simp only [Lit.wf, IntKind.min, IntKind.max, IntKind.signed, IntKind.bits, Bool.and_eq_true, decide_eq_true_eq] at this
  simp at this
  omega
theorem wfI {a : Int} (h : (Lit.int .i64 a).wf = true) : -9223372036854775808 ≤ a ∧ a < 9223372036854775808 := by
  simp only [Lit.wf, IntKind.min, IntKind.max, IntKind.signed, IntKind.bits, Bool.and_eq_true, decide_eq_true_eq, if_true] at h
  omega
theorem opensRec : Opens Tryd.prog 40 k40 RecOk := by
  have h := (Opens.struct (P := Tryd.prog) (t := 40) Tryd.underlying40 (by kernel_rfl) (OpensF.cons rfl rfl opensInt rfl (OpensF.cons rfl rfl opensInt rfl (OpensF.cons rfl rfl opensBytes rfl (OpensF.cons rfl rfl opensInt rfl (OpensF.cons rfl rfl opensBytes rfl (OpensF.one rfl rfl opensRows))))))).iso (fun x : Rec => (x.f0, x.f1, x.f2, x.f3, x.f4, x.f5)) (fun y => ⟨y.1, y.2.1, y.2.2.1, y.2.2.2.1, y.2.2.2.2.1, y.2.2.2.2.2⟩) (fun _ => rfl)
  refine h.imp fun x hx => ?_
  obtain ⟨h0, h1, h2, h3, h4, h5⟩ := hx
  exact ⟨(wfI h0).1, (wfI h0).2, wfB h2.2, wfB h4.2, fun p hp => wfB (h5.2 p hp).2⟩
theorem opensRecs : Opens Tryd.prog 41 (Kd.slice 40 k40) (fun xs => xs.length * Tryd.prog.bytesOf 40 ≤ reachBytes ∧ ∀ a, a ∈ xs → RecOk a) := Opens.slice Tryd.underlying41 (by kernel_rfl) opensRec
theorem opensRecss : Opens Tryd.prog 78 (Kd.slice 41 (Kd.slice 40 k40)) (fun xss => xss.length * Tryd.prog.bytesOf 41 ≤ reachBytes ∧ ∀ xs, xs ∈ xss → (xs.length * Tryd.prog.bytesOf 40 ≤ reachBytes ∧ ∀ a, a ∈ xs → RecOk a)) := Opens.slice Tryd.underlying78 (by kernel_rfl) opensRecs
theorem each_mem {H : Type} {P : Program} : ∀ {ts : List TypeId} {ds : List (DataW H)} (h : (DataW.weightsEach P ts ds).all (· ≤ reachBytes) = true) (j : Nat) (t : TypeId) (d : DataW H), ts[j]? = some t → ds[j]? = some d → ∀ n ∈ d.weights P t, n ≤ reachBytes
  | [], _, _, j, t, d, ht, _ => by simp at ht
  | t0 :: ts, [], _, j, t, d, _, hd => by simp at hd
  | t0 :: ts, d0 :: ds, h, j, t, d, ht, hd => by
    simp only [DataW.weightsEach, List.all_append, Bool.and_eq_true] at h
    cases j with
    | zero =>
      obtain rfl := Option.some.inj ht
      obtain rfl := Option.some.inj hd
      intro n hn
      have := List.all_eq_true.1 h.1 n hn
      simpa using this
    | succ j => exact each_mem h.2 j t d (by simpa using ht) (by simpa using hd)
section
variable {H : Type} {enc : TypeId × Value → H} {w : World} {base : Nat} {spare : Nat → Bool} {held : Bool} {r : Reach} {b0 : Nat} {v : Value} {d : DataW H} {p : List MemPlace}
set_option maxRecDepth 100000 in
theorem rec_param (hv : Value.okWide Tryd.prog w r b0 40 v) (h : DataW.Trod enc Tryd.prog w base spare held 40 v d p) (hw : ∀ n ∈ d.weights Tryd.prog 40, n ≤ reachBytes) :
    ∃ (x : Rec) (q : Rows6), v = recAgg x q ∧ RecC w q x ∧ RecOk x := by
  obtain ⟨cs, rfl, hsz⟩ := okWide_struct Tryd.underlying40 hv
  obtain ⟨fuel, hf⟩ := h
  obtain ⟨x, hK, ho⟩ := opensRec.get (cs := cs.toList) hf hw
  obtain ⟨A2, c2, A4, c4, A5, c5, hcs, l2, g2, l4, g4, l5, g5⟩ := k40_open hK
  refine ⟨x, ⟨A2, c2, A4, c4, A5, c5⟩, ?_, ⟨l2, g2, l4, g4, l5, g5⟩, ho⟩
  unfold recAgg
  exact congrArg Value.agg (Array.ext' hcs)
set_option maxRecDepth 100000 in
theorem recss_param (hv : Value.okWide Tryd.prog w r b0 78 v) (h : DataW.Trod enc Tryd.prog w base spare held 78 v d p) (hw : ∀ n ∈ d.weights Tryd.prog 78, n ≤ reachBytes) :
    ∃ (A : Option Addr) (c : Nat) (xss : List (List Rec)), v = .slice A xss.length c ∧ xss.length ≤ c ∧ Kd.C (Kd.slice 40 k40) w A xss.length xss ∧ ∀ xs ∈ xss, ∀ a ∈ xs, RecOk a := by
  obtain ⟨A, len, cap, rfl⟩ := okWide_slice Tryd.underlying78 hv
  obtain ⟨fuel, hf⟩ := h
  obtain ⟨xss, rfl, hl, hC, hwf⟩ := opensRecss.param hf hw
  exact ⟨A, cap, xss, rfl, hl, hC, fun xs hx => (hwf.2 xs hx).2⟩
end
end Go.Proofs.YteamljekjncbfaaDoor.P
end
section
namespace Go.Proofs.YteamljekjncbfaaDoorW.PrintWords
open Go.ChangeShapes Go.WideShapes
end Go.Proofs.YteamljekjncbfaaDoorW.PrintWords
end
