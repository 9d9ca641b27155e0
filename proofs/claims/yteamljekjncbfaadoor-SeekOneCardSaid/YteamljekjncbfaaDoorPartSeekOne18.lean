/- Lemmas of this claim, part 18. -/
import Derived.Test.YteamljekjncbfaaDoorPartSeekOne17
import Derived.Test.YteamljekjncbfaaDoorPartSeekOne2
section
set_option linter.unusedVariables false
set_option linter.unusedSimpArgs false
namespace Go.Proofs.YteamljekjncbfaaDoor.P
open Go.RowKit Go.Proofs.YteamljekjncbfaaDoor.Pure Go.Proofs.YteamljekjncbfaaDoorW.PrintWords Go.Proofs.YteamljekjncbfaaDoorW.PrintLast Go.Proofs.YteamljekjncbfaaDoorW.PrintMore
def ckAt (lo hi : Int) : Int := wrap64 (lo + (wrap64 (Int.tdiv (wrap64 ((wrap64 (hi - lo)) + 1)) 2)))
def seekS (at_ : Int → Int → Int) (size : Int) (head : Rec) (t : Int) : Int → Int → Rec → List (List Rec) → Option Rec
  | lo, hi, x, [] => if lo < hi then none else some x
  | lo, hi, x, way :: rest => if lo < hi then
      match followR size head way (at_ lo hi) with
      | none => none
      | some r => if r.f1 ≤ t then seekS at_ size head t (at_ lo hi) hi r rest else seekS at_ size head t lo (wrap64 (at_ lo hi - 1)) x rest
    else none
def seekR (at_ : Int → Int → Int) (size : Int) (head : Rec) (seen : List (List Rec)) (t : Int) : Option Rec :=
  match seen with
  | [] => none
  | way :: rest => match followR size head way 0 with
    | none => none
    | some r => if r.f1 ≤ t then seekS at_ size head t 0 head.f0 r rest else none
def errOf (o : Option Rec) : Int := match o with
  | some _ => 0
  | none => 95
def PartW (size : Int) (l m : List Rec) : Prop := ∃ k : Nat, ∃ (h1 : k < l.length) (h2 : k < m.length), l.take k = m.take k ∧ l[k] ≠ m[k] ∧ hashR size l[k] = hashR size m[k]
def PartL (size : Int) (l m : List (List Rec)) : Prop := ∃ k : Nat, ∃ (h1 : k < l.length) (h2 : k < m.length), l.take k = m.take k ∧ PartW size l[k] m[k]
theorem PartW.cons {size : Int} {l m : List Rec} (a : Rec) (h : PartW size l m) : PartW size (a :: l) (a :: m) := by
  obtain ⟨k, h1, h2, h3, h4, h5⟩ := h
  exact ⟨k + 1, by simpa using h1, by simpa using h2, by simpa using h3, by simpa using h4, by simpa using h5⟩
theorem PartL.cons {size : Int} {l m : List (List Rec)} (a : List Rec) (h : PartL size l m) : PartL size (a :: l) (a :: m) := by
  obtain ⟨k, h1, h2, h3, h4⟩ := h
  exact ⟨k + 1, by simpa using h1, by simpa using h2, by simpa using h3, by simpa using h4⟩
theorem ways_first (size t : Int) : ∀ (l m : List Rec) (x r s : Rec), followS size t x l = some r → followS size t x m = some s → l = m ∨ PartW size l m := by
  intro l
  induction l with
  | nil =>
    intro m x r s h1 h2
    simp only [followS] at h1
    split at h1
    · rename_i hxt
      cases m with
      | nil => exact .inl rfl
      | cons b m =>
        simp only [followS] at h2
        rw [if_pos (by omega)] at h2
        cases h2
    · cases h1
  | cons a l ih =>
    intro m x r s h1 h2
    cases m with
    | nil =>
      simp only [followS] at h1 h2
      split at h2
      · rename_i hxt
        rw [if_pos (by omega)] at h1
        cases h1
      · cases h2
    | cons b m =>
      simp only [followS] at h1 h2
      split at h1
      · cases h1
      · rename_i hle
        rw [if_neg hle] at h2
        split at h1
        · rename_i ha
          split at h2
          · rename_i hb
            by_cases hs : a = b
            · subst hs
              rcases ih m a r s h1 h2 with h | h
              · exact .inl (by rw [h])
              · exact .inr (h.cons a)
            · exact .inr ⟨0, by simp, by simp, rfl, hs, by rw [List.getElem_cons_zero, List.getElem_cons_zero, ha.2.2, hb.2.2]⟩
          · cases h2
        · cases h1
theorem follow_first {size t : Int} {l m : List Rec} {x r s : Rec} (h1 : followR size x l t = some r) (h2 : followR size x m t = some s) : l = m ∨ PartW size l m := by
  unfold followR at h1 h2
  split at h1
  · rename_i hc
    rw [if_pos hc] at h2
    exact ways_first size t l m x r s h1 h2
  · cases h1
theorem PartL.head {size : Int} {l m : List Rec} {L M : List (List Rec)} (h : PartW size l m) : PartL size (l :: L) (m :: M) := ⟨0, by simp, by simp, rfl, h⟩
theorem seekS_first (at_ : Int → Int → Int) (size : Int) (head : Rec) (t : Int) : ∀ (L M : List (List Rec)) (lo hi : Int) (x r s : Rec), seekS at_ size head t lo hi x L = some r → seekS at_ size head t lo hi x M = some s → r = s ∨ PartL size L M := by
  intro L
  induction L with
  | nil =>
    intro M lo hi x r s h1 h2
    cases M with
    | nil => exact .inl (Option.some.inj (h1.symm.trans h2))
    | cons b M =>
      simp only [seekS] at h1 h2
      split at h1
      · cases h1
      · rename_i hn
        rw [if_neg hn] at h2
        cases h2
  | cons a L ih =>
    intro M lo hi x r s h1 h2
    cases M with
    | nil =>
      simp only [seekS] at h1 h2
      split at h2
      · cases h2
      · rename_i hn
        rw [if_neg hn] at h1
        cases h1
    | cons b M =>
      simp only [seekS] at h1 h2
      split at h1
      · rename_i hl
        rw [if_pos hl] at h2
        cases ha : followR size head a (at_ lo hi) with
        | none => rw [ha] at h1; cases h1
        | some u =>
          cases hb : followR size head b (at_ lo hi) with
          | none => rw [hb] at h2; cases h2
          | some v =>
            rcases follow_first ha hb with h | h
            · subst h
              obtain rfl := Option.some.inj (ha.symm.trans hb)
              rw [ha] at h1 h2
              simp only at h1 h2
              split at h1
              · rename_i hu
                rw [if_pos hu] at h2
                exact (ih M _ _ _ r s h1 h2).imp id (PartL.cons a)
              · rename_i hu
                rw [if_neg hu] at h2
                exact (ih M _ _ _ r s h1 h2).imp id (PartL.cons a)
            · exact .inr (PartL.head h)
      · cases h1
theorem seekR_first (at_ : Int → Int → Int) (size : Int) (head : Rec) (t : Int) (L M : List (List Rec)) (r s : Rec) (h1 : seekR at_ size head L t = some r) (h2 : seekR at_ size head M t = some s) : r = s ∨ PartL size L M := by
  unfold seekR at h1 h2
  cases L with
  | nil => cases h1
  | cons a L =>
    cases M with
    | nil => cases h2
    | cons b M =>
      simp only at h1 h2
      cases ha : followR size head a 0 with
      | none => rw [ha] at h1; cases h1
      | some u =>
        cases hb : followR size head b 0 with
        | none => rw [hb] at h2; cases h2
        | some v =>
          rcases follow_first ha hb with h | h
          · subst h
            obtain rfl := Option.some.inj (ha.symm.trans hb)
            rw [ha] at h1 h2
            simp only at h1 h2
            split at h1
            · rename_i hu
              rw [if_pos hu] at h2
              exact (seekS_first at_ size head t L M _ _ _ r s h1 h2).imp id (PartL.cons a)
            · cases h1
          · exact .inr (PartL.head h)
theorem seekS_ok (at_ : Int → Int → Int) (size : Int) (head : Rec) (t : Int) (P : Rec → Prop) (hf : ∀ (l : List Rec) (e : Int) (r : Rec), (∀ q ∈ l, RecOk q) → followR size head l e = some r → P r) : ∀ (L : List (List Rec)) (lo hi : Int) (x r : Rec), (∀ l ∈ L, ∀ q ∈ l, RecOk q) → P x → seekS at_ size head t lo hi x L = some r → P r := by
  intro L
  induction L with
  | nil =>
    intro lo hi x r _ hx h
    simp only [seekS] at h
    split at h
    · cases h
    · obtain rfl := Option.some.inj h
      exact hx
  | cons a L ih =>
    intro lo hi x r ho hx h
    simp only [seekS] at h
    split at h
    · cases ha : followR size head a (at_ lo hi) with
      | none => rw [ha] at h; cases h
      | some u =>
        rw [ha] at h
        simp only at h
        have hu := hf a _ u (ho a List.mem_cons_self) ha
        split at h
        · exact ih _ _ u r (fun l hl => ho l (List.mem_cons_of_mem _ hl)) hu h
        · exact ih _ _ x r (fun l hl => ho l (List.mem_cons_of_mem _ hl)) hx h
    · cases h
theorem seekR_ok (at_ : Int → Int → Int) (size : Int) (head : Rec) (t : Int) (P : Rec → Prop) (hf : ∀ (l : List Rec) (e : Int) (r : Rec), (∀ q ∈ l, RecOk q) → followR size head l e = some r → P r) (L : List (List Rec)) (r : Rec) (ho : ∀ l ∈ L, ∀ q ∈ l, RecOk q) (h : seekR at_ size head L t = some r) : P r := by
  unfold seekR at h
  cases L with
  | nil => cases h
  | cons a L =>
    simp only at h
    cases ha : followR size head a 0 with
    | none => rw [ha] at h; cases h
    | some u =>
      rw [ha] at h
      simp only at h
      split at h
      · exact seekS_ok at_ size head t P hf L _ _ u r (fun l hl => ho l (List.mem_cons_of_mem _ hl)) (hf a _ u (ho a List.mem_cons_self) ha) h
      · cases h
end Go.Proofs.YteamljekjncbfaaDoor.P
end
section
namespace Go.Proofs.YteamljekjncbfaaDoor.P
open Go.RowKit Go.Proofs.YteamljekjncbfaaDoorW.PrintWords Go.Proofs.YteamljekjncbfaaDoorW.PrintLast Go.Proofs.YteamljekjncbfaaDoorW.PrintMore
attribute [local go_sem] max2_int min2_int max_two min_two max_three min_three max_four min_four
set_option linter.unusedVariables false
set_option linter.unusedSimpArgs false
def IsS112 (w0 W : World) (g : Nat) (f0 : Int) (f1 : Int) : Prop := W.heap[g]? = some (.cells #[.int .i64 f0, .int .i64 f1] 112 (0, 0)) ∧ w0.heap.size ≤ g
theorem IsS112.grown {w0 W : World} {g : Nat} {f0 : Int} {f1 : Int} {W1 : World} {row : Option Nat} (h : IsS112 w0 W g f0 f1) (hw : W.grownBy W1 row) (hne : some g ≠ row) : IsS112 w0 W1 g f0 f1 := by
  obtain ⟨hb, hg⟩ := h
  exact ⟨blk_grown hb hw hne, hg⟩
theorem IsS112.kept {w0 W : World} {g : Nat} {f0 : Int} {f1 : Int} {W1 : World} {S : Nat → Prop} (h : IsS112 w0 W g f0 f1) (hk : Kept W W1 S) (hne : ¬ S g) : IsS112 w0 W1 g f0 f1 := by
  obtain ⟨hb, hg⟩ := h
  exact ⟨blk_kept hb hk hne, hg⟩
theorem IsS112.below {w0 W : World} {g : Nat} {f0 : Int} {f1 : Int} {W1 : World} (h : IsS112 w0 W g f0 f1) (hw : Below W.heap.size W W1) : IsS112 w0 W1 g f0 f1 := h.grown (grown_of_below hw none) (by simp)
theorem IsS112.alloc {w0 W : World} {g : Nat} {f0 : Int} {f1 : Int} (h : IsS112 w0 W g f0 f1) (o : Obj) : IsS112 w0 (W.alloc o) g f0 f1 := h.below (below_alloc (Below.refl _ _) o)
theorem IsS112.drewN {w0 W : World} {g : Nat} {f0 : Int} {f1 : Int} (h : IsS112 w0 W g f0 f1) (m : Nat) : IsS112 w0 (W.drewN m) g f0 f1 := h
theorem IsS112.drew {w0 W : World} {g : Nat} {f0 : Int} {f1 : Int} (h : IsS112 w0 W g f0 f1) : IsS112 w0 W.drew g f0 f1 := h
theorem IsS112.at_ {w0 W : World} {g : Nat} {f0 : Int} {f1 : Int} {w' : World} {m : Nat} (hq : W.drewN m = w') (h : IsS112 w0 W g f0 f1) : IsS112 w0 w' g f0 f1 := by subst hq; exact IsS112.drewN h m
theorem IsS112.ge {w0 W : World} {g : Nat} {f0 : Int} {f1 : Int} (h : IsS112 w0 W g f0 f1) : w0.heap.size ≤ g := by
  obtain ⟨hb, hg⟩ := h
  exact hg
theorem IsS112.ne_blk {w0 W : World} {g : Nat} {f0 : Int} {f1 : Int} {a : Nat} {cs : Array Value} {t : TypeId} {fr : Nat × Nat} (h : IsS112 w0 W g f0 f1) (hb2 : W.heap[a]? = some (.cells cs t fr)) (ht : t ≠ 112) : g ≠ a := by
  obtain ⟨hb, hg⟩ := h
  rintro rfl
  rw [hb] at hb2
  injection hb2 with hb2
  injection hb2 with _ ht2
  exact ht ht2.symm
theorem cellS112_0 {W : World} {g : Nat} {f0 : Int} {f1 : Int} (h : W.heap[g]? = some (.cells #[.int .i64 f0, .int .i64 f1] 112 (0, 0))) : W.cell? ⟨g, 0, none⟩ = some (.int .i64 f0) := (blk_cell h 0).trans rfl
theorem IsS112.set_0 {w0 W : World} {g : Nat} {f0 : Int} {f1 : Int} (h : IsS112 w0 W g f0 f1) (x : Int) : IsS112 w0 (W.setCell ⟨g, 0, none⟩ (.int .i64 x)) g x f1 := by
  obtain ⟨hb, hg⟩ := h
  exact ⟨by simpa using blk_set hb 0 (.int .i64 x), hg⟩
theorem cellS112_1 {W : World} {g : Nat} {f0 : Int} {f1 : Int} (h : W.heap[g]? = some (.cells #[.int .i64 f0, .int .i64 f1] 112 (0, 0))) : W.cell? ⟨g, 1, none⟩ = some (.int .i64 f1) := (blk_cell h 1).trans rfl
theorem IsS112.set_1 {w0 W : World} {g : Nat} {f0 : Int} {f1 : Int} (h : IsS112 w0 W g f0 f1) (x : Int) : IsS112 w0 (W.setCell ⟨g, 1, none⟩ (.int .i64 x)) g f0 x := by
  obtain ⟨hb, hg⟩ := h
  exact ⟨by simpa using blk_set hb 1 (.int .i64 x), hg⟩
theorem IsS112.new (w0 W : World) (f0 : Int) (f1 : Int) (hB : Below w0.heap.size w0 W) : IsS112 w0 (W.alloc (.cells #[.int .i64 f0, .int .i64 f1] 112)) W.heap.size f0 f1 := ⟨by simpa using heap_alloc_new W _, hB.size⟩
def seek_search_next.f (s0_0 : Int) (s0_1 : Int) : Option (Int × Bool × Int × Int) := some (wrap64 (s0_0 + (wrap64 (Int.tdiv (wrap64 ((wrap64 (s0_1 - s0_0)) + 1)) 2))), decide (s0_0 < s0_1), s0_0, s0_1)
set_option maxHeartbeats 8000000 in
set_option maxRecDepth 100000 in
theorem seek_search_next.calls (g : Nat) (s0_0 : Int) (s0_1 : Int) (r1 : Int) (r2 : Bool) (r3 : Int) (r4 : Int) (w0 w : World) (hI : IsS112 w0 w g s0_0 s0_1) (hB : Below w0.heap.size w0 w) (h : seek_search_next.f s0_0 s0_1 = some (r1, r2, r3, r4)) :
    Calls Tryd.prog 83 #[.pointer (some ⟨g, 0, none⟩)] w fun e w' => e = .returned (.tuple #[.int .i64 r1, .bool r2]) ∧ IsS112 w0 w' g r3 r4 ∧ Below w0.heap.size w0 w' ∧ KeepBut w w' g none := by
  have HI0 := Aside0.mk hI
  have HK := Aside0.mk (KeepBut.refl w g none)
  have HL := Aside0.mk hB.size
  clear hI
  have HW0 := Aside0.mk hB.size
  have HB := Aside0.mk hB
  clear hB
  have H : (some (wrap64 (s0_0 + (wrap64 (Int.tdiv (wrap64 ((wrap64 (s0_1 - s0_0)) + 1)) 2))), decide (s0_0 < s0_1), s0_0, s0_1)) = some (r1, r2, r3, r4) := h
  clear h
  simp only [Option.some.injEq, Prod.mk.injEq] at H
  obtain ⟨rfl, rfl, rfl, rfl⟩ := H
  obtain ⟨HGz2, hgz2⟩ := HI0.out
  have hcz2_0 := cellS112_0 HGz2
  have hcz2_1 := cellS112_1 HGz2
  have hfz2_0 := blk_frozen HGz2 0
  have hfz2_1 := blk_frozen HGz2 1
  clear HGz2 hgz2
  go_enter Tryd.func83, Tryd.ntmps83
  go_wp2
  repeat (go_quiet (fail); try go_wp2)
  go_ret2
  exact ⟨by first | rfl | (simp [errW_none, errW_some] <;> rfl) | (simp [*, errW_none, errW_some] <;> rfl), by repeat (first | (with_reducible first | exact HI0.out | apply IsS112.alloc | apply IsS112.drewN | apply IsS112.drew | apply IsS112.set_0 | apply IsS112.set_1) | exact HI0.out), by repeat (first | (with_reducible first | exact HB.out | apply below_alloc | apply pw_below_drewN | apply below_drew1 | refine below_set ?_ (IsS112.ge HI0.out)) | exact HB.out), by repeat (first | (with_reducible first | exact HK.out | apply KeepBut.set_ | apply keep_drewN | apply keep_drew | apply keep_alloc) | exact HK.out)⟩
end Go.Proofs.YteamljekjncbfaaDoor.P
end
section
namespace Go.Proofs.YteamljekjncbfaaDoor.P
open Go.RowKit Go.Proofs.YteamljekjncbfaaDoorW.PrintWords Go.Proofs.YteamljekjncbfaaDoorW.PrintLast Go.Proofs.YteamljekjncbfaaDoorW.PrintMore
attribute [local go_sem] max2_int min2_int max_two min_two max_three min_three max_four min_four
set_option linter.unusedVariables false
set_option linter.unusedSimpArgs false
def seek_search_told.f (s0_0 : Int) (s0_1 : Int) (a1 : Int) (a2 : Bool) : Option (Int × Int) := if a2 = true then (some (s0_0, wrap64 (a1 - 1))) else (some (a1, s0_1))
set_option maxHeartbeats 8000000 in
set_option maxRecDepth 100000 in
theorem seek_search_told.calls (g : Nat) (s0_0 : Int) (s0_1 : Int) (a1 : Int) (a2 : Bool) (r1 : Int) (r2 : Int) (w0 w : World) (hI : IsS112 w0 w g s0_0 s0_1) (hB : Below w0.heap.size w0 w) (h : seek_search_told.f s0_0 s0_1 a1 a2 = some (r1, r2)) :
    Calls Tryd.prog 84 #[.pointer (some ⟨g, 0, none⟩), .int .i64 a1, .bool a2] w fun e w' => e = .returned (.tuple #[]) ∧ IsS112 w0 w' g r1 r2 ∧ Below w0.heap.size w0 w' ∧ KeepBut w w' g none := by
  have HI0 := Aside0.mk hI
  have HK := Aside0.mk (KeepBut.refl w g none)
  have HL := Aside0.mk hB.size
  clear hI
  have HW0 := Aside0.mk hB.size
  have HB := Aside0.mk hB
  clear hB
  have H : (if a2 = true then (some (s0_0, wrap64 (a1 - 1))) else (some (a1, s0_1))) = some (r1, r2) := h
  clear h
  by_cases c4 : a2 = true
  · subst c4
    have H1 : (some (s0_0, wrap64 (a1 - 1))) = some (r1, r2) := by rw [if_pos rfl] at H; exact H
    clear H
    have H := H1
    clear H1
    simp only [Option.some.injEq, Prod.mk.injEq] at H
    obtain ⟨rfl, rfl⟩ := H
    obtain ⟨HGz5, hgz5⟩ := HI0.out
    have hcz5_0 := cellS112_0 HGz5
    have hcz5_1 := cellS112_1 HGz5
    have hfz5_0 := blk_frozen HGz5 0
    have hfz5_1 := blk_frozen HGz5 1
    clear HGz5 hgz5
    go_enter Tryd.func84, Tryd.ntmps84
    go_wp2
    first | go_end0 | ((try simp only [Exit.inBlock, Exit.then]); refine bodyPost_ret (results_none rfl _ _ _) rfl ?_)
    exact ⟨by first | rfl | (simp [errW_none, errW_some] <;> rfl) | (simp [*, errW_none, errW_some] <;> rfl), by repeat (first | (with_reducible first | exact HI0.out | apply IsS112.alloc | apply IsS112.drewN | apply IsS112.drew | apply IsS112.set_0 | apply IsS112.set_1) | exact HI0.out), by repeat (first | (with_reducible first | exact HB.out | apply below_alloc | apply pw_below_drewN | apply below_drew1 | refine below_set ?_ (IsS112.ge HI0.out)) | exact HB.out), by repeat (first | (with_reducible first | exact HK.out | apply KeepBut.set_ | apply keep_drewN | apply keep_drew | apply keep_alloc) | exact HK.out)⟩
  · replace c4 := Bool.eq_false_iff.mpr c4
    subst c4
    have H1 : (some (a1, s0_1)) = some (r1, r2) := by rw [if_neg (show ¬ (false = true) by decide)] at H; exact H
    clear H
    have H := H1
    clear H1
    simp only [Option.some.injEq, Prod.mk.injEq] at H
    obtain ⟨rfl, rfl⟩ := H
    obtain ⟨HGz6, hgz6⟩ := HI0.out
    have hcz6_0 := cellS112_0 HGz6
    have hcz6_1 := cellS112_1 HGz6
    have hfz6_0 := blk_frozen HGz6 0
    have hfz6_1 := blk_frozen HGz6 1
    clear HGz6 hgz6
    go_enter Tryd.func84, Tryd.ntmps84
    go_wp2
    first | go_end0 | ((try simp only [Exit.inBlock, Exit.then]); refine bodyPost_ret (results_none rfl _ _ _) rfl ?_)
    exact ⟨by first | rfl | (simp [errW_none, errW_some] <;> rfl) | (simp [*, errW_none, errW_some] <;> rfl), by repeat (first | (with_reducible first | exact HI0.out | apply IsS112.alloc | apply IsS112.drewN | apply IsS112.drew | apply IsS112.set_0 | apply IsS112.set_1) | exact HI0.out), by repeat (first | (with_reducible first | exact HB.out | apply below_alloc | apply pw_below_drewN | apply below_drew1 | refine below_set ?_ (IsS112.ge HI0.out)) | exact HB.out), by repeat (first | (with_reducible first | exact HK.out | apply KeepBut.set_ | apply keep_drewN | apply keep_drew | apply keep_alloc) | exact HK.out)⟩
end Go.Proofs.YteamljekjncbfaaDoor.P
end
