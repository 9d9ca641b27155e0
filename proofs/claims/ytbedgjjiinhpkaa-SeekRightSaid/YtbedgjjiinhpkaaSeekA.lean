/-
  The walks of seek.Probes$1, seek.Find$1: what the two functions that are handed to seek.run do.
-/
import Derived.Test.YtbedgjjiinhpkaaFseeksearchtold
import Derived.WalkSpells
import Derived.WalkLawsBesides
set_option linter.unusedVariables false
set_option linter.unusedSimpArgs false
namespace Go.Proofs.Ytbedgjjiinhpkaa.P
open Go.RowKit Go.Proofs.YtbedgjjiinhpkaaW.PrintWords Go.Proofs.YtbedgjjiinhpkaaW.PrintLast Go.Proofs.YtbedgjjiinhpkaaW.PrintMore

/-- The captured variable's block B holds a slice that owns l. -/
def Cap (w0 w : World) (B : Nat) (l : List Int) : Prop :=
  w0.heap.size ≤ B ∧ ∃ v, w.heap[B]? = some (.cells #[v] 22 (0, 0)) ∧ Kd.R (Kd.int .i64) 3 w w0.heap.size (fun _ => True) v l

/-- Blocks of other types than those of the list stay. -/
def KeepTy (ts : List Nat) (w w' : World) : Prop :=
  ∀ (i : Nat) (cs : Array Value) (t : TypeId) (fr : Nat × Nat), w.heap[i]? = some (.cells cs t fr) → t ∉ ts → w'.heap[i]? = some (.cells cs t fr)

theorem KeepTy.refl (ts : List Nat) (w : World) : KeepTy ts w w := fun _ _ _ _ h _ => h
theorem KeepTy.trans {ts : List Nat} {w w1 w2 : World} (h : KeepTy ts w w1) (k : KeepTy ts w1 w2) : KeepTy ts w w2 :=
  fun i cs t fr hi ht => k i cs t fr (h i cs t fr hi ht) ht

theorem slice_form {α : Type} {d : Kd α} {e base : Nat} {ok : Nat → Prop} {w : World} {v : Value} {xs : List α} (h : d.R e w base ok v xs) : ∃ A n c, v = .slice A n c := by
  obtain ⟨A, c, h⟩ := Kd.R_slice h
  exact ⟨A, _, c, h⟩

set_option maxHeartbeats 800000 in
set_option maxRecDepth 100000 in
theorem probes1_calls (B : Nat) (l : List Int) (e : Int) (w0 w : World) (hC : Cap w0 w B l) (hB : Below w0.heap.size w0 w) (hl : l.length < 17592186044416) :
    Calls Try.prog 14 #[.int .i64 e, .pointer (some ⟨B, 0, none⟩)] w fun e' w' => e' = .returned (.tuple #[]) ∧ Cap w0 w' B (l ++ [e]) ∧ Below w0.heap.size w0 w' ∧ KeepTy [22, 3] w w' := by
  obtain ⟨hge, v, hb, hR⟩ := hC
  have hc := (blk_cell hb 0).trans rfl
  have hf := blk_frozen hb 0
  have HBk := Aside0.mk hb
  have HR := Aside0.mk hR
  have HB := Aside0.mk hB
  clear hb hR hB
  go_enter Try.func14, Try.ntmps14
  go_wp2_with ((at_builtin; go_must (refine Kd.R_append (Kd.int .i64) (w0 := w0) w0.heap.size rfl (.tmp 3) (.tmp 5) 22 3 (.int .i64 0) 8 rfl Try.underlying22 info3 rfl (by decide) (by omega) v l e [.int .i64 e] (fun _ => True) (fun _ => False) rfl rfl ?aP (fun _ hk => hk.elim) ?aF ?aO ?aB ?aS ?aL ?_; (case aP => exact rfl); (case aB => exact HB.out); (case aF => exact (fun _ _ => trivial)); (case aO => exact HR.out); (case aS => exact HB.out.size); (case aL => omega); intro v1 w1 hR1 hb1 hg1 hat1; obtain ⟨A1, n1, c1, e1⟩ := slice_form hR1; subst e1; have hw1 := blk_grown HBk.out hg1 (Kd.R_ne HR.out HBk.out (by decide)); have hc1 := (blk_cell hw1 0).trans rfl; have hf1 := blk_frozen hw1 0; have HW1 := Aside0.mk hw1; have HR1 := Aside0.mk hR1; have HB1 := Aside0.mk hb1; have HG1 := Aside0.mk hg1; clear hw1 hR1 hb1 hg1 hat1)))
  go_end0
  refine ⟨rfl, ⟨hge, _, blk_set HW1.out 0 _, ?_⟩, HB1.out.setCell hge _, ?_⟩
  · exact Kd.R_set HR1.out HW1.out (by decide) 0 _
  · intro i cs t fr hi ht
    have h1 := blk_grown hi HG1.out (row := v.ownBlock) (by
      intro e1
      obtain ⟨cells, hcl⟩ := own_typed (Kd.R_own HR.out).choose_spec i e1.symm
      rw [hcl] at hi
      injection hi with hi
      injection hi with _ hi
      exact ht (by simp [← hi]))
    have hne : i ≠ B := by
      rintro rfl
      rw [HBk.out] at hi
      injection hi with hi
      injection hi with _ hi
      exact ht (by simp [← hi])
    exact (Below.heap_setCell _ _ _ _ hne).trans h1

end Go.Proofs.Ytbedgjjiinhpkaa.P
