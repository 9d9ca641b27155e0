/- Lemmas of this claim, part 2. -/
import Derived.Test.YtdeneoknjeegbaaDoorPartArenaSwept1
import Derived.Test.YtdeneoknjeegbaaDoorPartArenaSwept0
import Derived.Test.YtdeneoknjeegbaaDoorProg
import Derived.Below
import Derived.Deep.Draws
import Derived.Deep.AppendLies
import Derived.Maps.AppendAt
import Derived.OwnWalk
import Derived.Laws.BytesArg
import Derived.Laws.MakeOwn
import Derived.Laws.OwnMore
import Derived.Deep.OwnRows
import Derived.Tactics
import Derived.Lib.ConvBytes
import Derived.Laws.Slices
import Derived.WalkKit
import Derived.KernelRfl
import Derived.RowKit3
import Derived.Deep.LoopGhost
import Derived.Deep.QuietTactic
import Derived.BigQuiet
import Derived.WideLaws
import Derived.Deep.DeepCutAuto
import Derived.Deep.CutBlock
import Derived.Deep.RegionHeld3
import Derived.Laws.Rows
import Derived.Lib.AppendStr
import Derived.ArgAppend
import Derived.Laws.IdiomCopy
import Derived.OrdersHeld
import Derived.Laws.BitsLemmas
import Derived.RowKit
import Derived.WalkSpells
import Derived.WalkLawsBesides
import Derived.IntWalk
import Derived.Lib.TrailingZeros
section
namespace Go.Proofs.YtdeneoknjeegbaaDoorW.PrintWords
open Go.RowKit
namespace Kd
section
variable {α : Type} {d : Kd α} {e base n cap g : Nat} {ok ok' okp : Nat → Prop} {w w1 W : World} {v v1 : Value} {xs ys : List α}
theorem N_made {rows : List (List Value)} (hR : (raw d.sz).R e w1 base (fun k => k = W.heap.size) v1 rows) (hg : W.grownBy w1 none) (hat : ∃ b, v1.ownBlock = some b ∧ W.heap.size ≤ b) (hl : rows.length = xs.length) (hf : ∀ (j : Nat) (x : α) (c : List Value), xs[j]? = some x → rows[j]? = some c → FK d W okp x c)
    (hok : ∀ k, okp k → ok k) (hfresh : ok W.heap.size) : N d e w1 base ok v1 xs := by
  obtain ⟨b, hb, hle⟩ := hat
  refine ⟨fun k hk => by rw [hR.1 k hk]; exact hfresh, rows, hl, raw_tight hR, fun j x c hx hc => ?_⟩
  refine FK_mono (FK_step (FK_bound (hf j x c hx hc)) (fun k hk hlt => hg.block k hlt (by simp))) (fun k hk => ⟨hok k hk.1, fun he => ?_⟩)
  rw [hb] at he
  injection he with he
  have := hk.2
  omega
end
section
variable {P : Program} {ops : Array Oper} {rest : List Oper} {o : Oper} {a : Act} {Q : Exit → Act → World → Prop} {Kc : Act → World → Prop} {α : Type}
theorem N_lit (d : Kd α) {w0 W : World} (base e : Nat) (hgd : o.guard = none) {N' : Tmp} (_hd : o.dst = some N') {xs : List α} {inner : List Value} {ok okp : Nat → Prop}
    (hrun : (execOp a.eval o).run P W = .ok (.value (.slice (some ⟨W.heap.size, 0, none⟩) xs.length xs.length)) (W.alloc (.cells inner.toArray e)))
    (hrep : Reps (FK d W okp) d.sz xs inner) (hok : ∀ k, okp k → ok k) (hfresh : ok W.heap.size) (HB : Below base w0 W) (hbase : base ≤ W.heap.size) (hm : xs.length ≤ 9223372036854775807)
    (h : ∀ v1 w1, N d e w1 base ok v1 xs → Below base w0 w1 → W.grownBy w1 none → (∃ b, v1.ownBlock = some b ∧ W.heap.size ≤ b) → wpList P ops Q rest (a.put o.dst v1) w1) :
    wpList P ops Q (o :: rest) a W := by
  refine R_lit (raw d.sz) base e hgd _hd (xs := chunks d.sz xs.length inner) (inner := inner) (ok := fun k => k = W.heap.size) (okp := fun _ => False) (by rw [chunks_length]; exact hrun) (reps_raw hrep (fun y c hk => ⟨d.K_len (FK_now hk), d.K_one (FK_now hk)⟩)) (fun _ hk => hk.elim) rfl HB hbase (by rw [chunks_length]; exact hm) ?_
  intro v1 w1 hr hb hg hat
  exact h v1 w1 (N_made hr hg hat (chunks_length _ _ _) (fun j y c hy hc => by rw [chunks_get hc]; exact hrep.2 j y hy) hok hfresh) hb hg hat
end
end Kd
end Go.Proofs.YtdeneoknjeegbaaDoorW.PrintWords
end
section
namespace Go.Proofs.YtdeneoknjeegbaaDoorW.PrintMore
open Go.RowKit Go.Proofs.YtdeneoknjeegbaaDoorW.PrintWords
namespace Kd
open Go.Proofs.YtdeneoknjeegbaaDoorW.PrintWords.Kd
end Kd
namespace Kd
open Go.Proofs.YtdeneoknjeegbaaDoorW.PrintWords.Kd
section
variable {α : Type} {d : Kd α} {e base g N : Nat} {ok : Nat → Prop} {W w1 : World} {u v : Value} {xs : List α}
end
end Kd
theorem max2_int (k k' : IntKind) (x y : Int) : Builtin.max2 (.int k x) (.int k' y) = pure (.int k (if x < y then y else x)) := by simp only [Builtin.max2, gt_iff_lt]
theorem min2_int (k k' : IntKind) (x y : Int) : Builtin.min2 (.int k x) (.int k' y) = pure (.int k (if y < x then y else x)) := by simp only [Builtin.min2]
theorem max_two (ats : Array TypeId) (ty : TypeId) (a b : Value) : Builtin.max_ ats ty #[a, b] = (Builtin.max2 a b >>= fun s => pure s) := by simp only [Builtin.max_, List.foldlM_cons, List.foldlM_nil]
theorem min_two (ats : Array TypeId) (ty : TypeId) (a b : Value) : Builtin.min_ ats ty #[a, b] = (Builtin.min2 a b >>= fun s => pure s) := by simp only [Builtin.min_, List.foldlM_cons, List.foldlM_nil]
theorem max_three (ats : Array TypeId) (ty : TypeId) (a b c : Value) : Builtin.max_ ats ty #[a, b, c] = (Builtin.max2 a b >>= fun s => Builtin.max2 s c >>= fun s => pure s) := by simp only [Builtin.max_, List.foldlM_cons, List.foldlM_nil]
theorem min_three (ats : Array TypeId) (ty : TypeId) (a b c : Value) : Builtin.min_ ats ty #[a, b, c] = (Builtin.min2 a b >>= fun s => Builtin.min2 s c >>= fun s => pure s) := by simp only [Builtin.min_, List.foldlM_cons, List.foldlM_nil]
theorem max_four (ats : Array TypeId) (ty : TypeId) (a b c d : Value) : Builtin.max_ ats ty #[a, b, c, d] = (Builtin.max2 a b >>= fun s => Builtin.max2 s c >>= fun s => Builtin.max2 s d >>= fun s => pure s) := by simp only [Builtin.max_, List.foldlM_cons, List.foldlM_nil]
theorem min_four (ats : Array TypeId) (ty : TypeId) (a b c d : Value) : Builtin.min_ ats ty #[a, b, c, d] = (Builtin.min2 a b >>= fun s => Builtin.min2 s c >>= fun s => Builtin.min2 s d >>= fun s => pure s) := by simp only [Builtin.min_, List.foldlM_cons, List.foldlM_nil]
end Go.Proofs.YtdeneoknjeegbaaDoorW.PrintMore
namespace Go.Proofs.YtdeneoknjeegbaaDoorW.PrintWords
open Go.RowKit
section
variable {P : Program} {ops : Array Oper} {rest : List Oper} {o : Oper} {a : Act} {Q : Exit → Act → World → Prop} {W : World}
theorem gate_callee {f : FuncId} {as_ : Array Operand} {ts : Array TypeId} (_ho : o.op = .call { callee := .value (.func f), args := as_, argTypes := ts }) (h : wpList P ops Q (o :: rest) a W) : wpList P ops Q (o :: rest) a W := h
theorem gate_builtin {b : Builtin} {xs : Array Operand} {ts : Array TypeId} (_ho : o.op = .call { callee := .builtin b, args := xs, argTypes := ts }) (h : wpList P ops Q (o :: rest) a W) : wpList P ops Q (o :: rest) a W := h
end
def mx (a b : Int) : Int := if a < b then b else a
def mn (a b : Int) : Int := if b < a then b else a
def shl (k : IntKind) (x y : Int) : Int := k.wrap (x * 2 ^ min y.toNat k.bits)
def shr (k : IntKind) (x y : Int) : Int := x / 2 ^ min y.toNat k.bits
theorem shl_small {k : IntKind} {x y j : Int} (h : shl k x y = j) (hy : y ≤ k.bits) : k.wrap (x * 2 ^ y.toNat) = j := by rw [← h]; unfold shl; rw [Nat.min_eq_left (by omega)]
theorem shr_small {k : IntKind} {x y j : Int} (h : shr k x y = j) (hy : y ≤ k.bits) : x / 2 ^ y.toNat = j := by rw [← h]; unfold shr; rw [Nat.min_eq_left (by omega)]
namespace Kd
section
variable {α : Type} {d : Kd α} {e base : Nat} {ok : Nat → Prop} {W w1 : World} {v : Value} {xs : List α}
theorem R_grown2 (h : d.R e W base ok v xs) (hE : d.E = []) {row : Option Nat} (hg : W.grownBy w1 row) (hne : ∀ k, row = some k → some k ≠ v.ownBlock) : d.R e w1 base ok v xs :=
  R_mono (R_grown (R_tight hE h) hg (fun k hk e_ => hne k e_.symm hk)) (fun k hk => h.1 k hk.symm)
end
section
variable {α : Type} {d : Kd α} {e base g n cap : Nat} {ok oki okp : Nat → Prop} {W : World} {xs : List α} {i : Int} {c : List Value}
end
section
variable {α : Type} {d : Kd α} {e base b b' g N : Nat} {ok ok1 : Nat → Prop} {W W2 w1 : World} {u v : Value} {xs ys : List α} {S : Nat → Prop}
theorem R_reok (hE : d.E = []) (h : d.R e W base ok1 v xs) (hok : ∀ k, v.ownBlock = some k → ok k) : d.R e W base ok v xs := R_mono (R_tight hE h) (fun k hk => hok k hk.symm)
end
end Kd
end Go.Proofs.YtdeneoknjeegbaaDoorW.PrintWords
namespace Go.Proofs.YtdeneoknjeegbaaDoorW.PrintWords
open Go.RowKit
namespace Kd
def V {α : Type} (d : Kd α) (_e : Nat) (W : World) (_base : Nat) (ok : Nat → Prop) (v : Value) (xs : List α) : Prop := ∃ A c, v = .slice A xs.length c ∧ xs.length ≤ c ∧ F d W ok A xs.length xs
section
variable {α β : Type} {d : Kd α} {e base base' n m c g N' lo hi : Nat} {ok ok' S : Nat → Prop} {w W w1 : World} {A : Option Addr} {ad : Addr} {u v v1 : Value} {xs : List α}
theorem V_map (h : V d e W base ok v xs) (hF : ∀ A, F d W ok A xs.length xs → F d w1 ok' A xs.length xs) : V d e w1 base' ok' v xs := by
  obtain ⟨A, c, hv, hl, hf⟩ := h
  exact ⟨A, c, hv, hl, hF A hf⟩
theorem V_mk (hl : xs.length ≤ c) (hf : F d W ok A xs.length xs) : V d e W base ok (.slice A xs.length c) xs := ⟨A, c, rfl, hl, hf⟩
theorem V_slice (h : V d e W base ok v xs) : ∃ A c, v = .slice A xs.length c := by
  obtain ⟨A, c, hv, _⟩ := h
  exact ⟨A, c, hv⟩
theorem V_at (h : V d e W base ok (.slice A n c) xs) : n = xs.length ∧ n ≤ c ∧ F d W ok A xs.length xs := by
  obtain ⟨A', c', hv, hl, hf⟩ := h
  injection hv with ha hn hc
  subst ha; subst hc
  exact ⟨hn, by rw [hn]; exact hl, hf⟩
theorem V_reads' (h : V d e W base ok (.slice A n c) xs) : n = xs.length ∧ n ≤ c ∧ d.C W A xs.length xs := ⟨(V_at h).1, (V_at h).2.1, F_now (V_at h).2.2⟩
theorem V_F (h : V d e W base ok (.slice A n c) xs) : F d W ok A n xs := by
  obtain ⟨hn, _, hf⟩ := V_at h
  rw [hn]
  exact hf
theorem V_nil (d : Kd α) (e : Nat) (W : World) (base : Nat) (ok : Nat → Prop) : V d e W base ok (.slice none 0 0) [] := ⟨none, 0, rfl, Nat.le_refl _, F_nil d W ok⟩
theorem R_V (h : d.R e W base ok v xs) : V d e W base' ok v xs := by
  obtain ⟨A, c, rfl⟩ := R_slice h
  exact ⟨A, c, rfl, (R_reads' h).2.1, R_F h⟩
theorem V_mono (h : V d e W base ok v xs) (hok : ∀ k, ok k → ok' k) : V d e W base ok' v xs := V_map h (fun _ hf => F_mono hf hok)
theorem V_bound (h : V d e W base ok v xs) : V d e W base (fun k => ok k ∧ k < W.heap.size) v xs := V_map h (fun _ hf => F_bound hf)
theorem V_lower (h : V d e W base ok v xs) (_ : base' ≤ base) : V d e W base' ok v xs := h
theorem V_step (h : V d e W base ok v xs) (hm : ∀ k, ok k → k < W.heap.size → w1.heap[k]? = W.heap[k]?) : V d e w1 base ok v xs := V_map h (fun _ hf => F_step hf hm)
theorem V_below (h : V d e W base ok v xs) (hb : Below W.heap.size W w1) : V d e w1 base ok v xs := V_map h (fun _ hf => F_below hf hb)
theorem V_far (h : V d e W base ok v xs) {p : Addr} (hok : ∀ k, ok k → k ≠ p.block) (u : Value) : V d e (W.setCell p u) base ok v xs := V_map h (fun _ hf => F_far hf hok u)
theorem V_elder' (h : V d e W base ok v xs) (hbase : ∀ k, u.ownBlock = some k → W.heap.size ≤ k) (hb : Below W.heap.size W w1) : V d e w1 base (fun k => ok k ∧ some k ≠ u.ownBlock) v xs := V_map h (fun _ hf => F_elder' hf hbase hb)
theorem FK_slice_mk {l : List α} (hl : l.length ≤ c) (hf : F d W ok A l.length l) : FK (Kd.slice e d) W ok l [.slice A l.length c] := fun W' hW => ⟨A, c, rfl, hl, hf W' hW⟩
theorem foot_int {k : IntKind} {l : List Int} (h : (Kd.int k).C w (some ad) n l) (i : Int) (h0 : 0 ≤ i) (h1 : i < n) : w.cell? (ad.add i.toNat) = some (.int k (rd l i)) := by
  obtain ⟨ad', he, hc⟩ := at_int h i h0 h1
  injection he with he
  subst he
  exact hc
theorem R_newM {M : Nat → Prop} (h : d.R e w1 W.heap.size ok v xs) (hle : w.heap.size ≤ W.heap.size) (hM : ∀ k, w.heap.size ≤ k → M k) : d.R e w1 W.heap.size (fun k => M k ∧ ok k) v xs := R_mono (R_bound h) (fun k hk => ⟨hM k (Nat.le_trans hle hk.2.1), hk.1⟩)
end
end Kd
end Go.Proofs.YtdeneoknjeegbaaDoorW.PrintWords
end
section
namespace Go.Proofs.YtdeneoknjeegbaaDoor.P
open Go.RowKit Go.Proofs.YtdeneoknjeegbaaDoorW.PrintWords Go.Proofs.YtdeneoknjeegbaaDoorW.PrintLast Go.Proofs.YtdeneoknjeegbaaDoorW.PrintMore
attribute [local go_sem] max2_int min2_int max_two min_two max_three min_three max_four min_four
set_option linter.unusedVariables false
set_option linter.unusedSimpArgs false
def errW : Option Int → Value
  | none => .nilIface
  | some c => .iface 0 (.int .i64 c)
theorem errW_none : errW none = .nilIface := rfl
theorem errW_some (c : Int) : errW (some c) = .iface 0 (.int .i64 c) := rfl
theorem info5 : (Tryd.prog.info? 5).map (fun i => (i.zero, i.size, i.bytes)) = some (some (.int .u8 0), 1, 1) := by kernel_rfl
def rd_L1 (xs : List (List Int)) (i : Int) : (List Int) := xs.getD i.toNat ([] : List Int)
theorem at_L1 {w : World} {A : Option Addr} {n : Nat} {xs : List (List Int)} (h : Kd.C (Kd.slice 5 (Kd.int .u8)) w A n xs) (i : Int) (h0 : 0 ≤ i) (h1 : i < n) : ∃ ad A0 c0, A = some ad ∧ w.cell? (ad.add i.toNat) = some (.slice A0 (rd_L1 xs i).length c0) ∧ (rd_L1 xs i).length ≤ c0 ∧ (Kd.int .u8).C w A0 (rd_L1 xs i).length (rd_L1 xs i) := by
  obtain ⟨ad, c, e, _, hK, hc0⟩ := Kd.C_get h ([] : List Int) i h0 h1
  have hc : ∀ j u, c[j]? = some u → w.cell? (ad.add (i.toNat * 1 + j)) = some u := hc0
  obtain ⟨A0, c0, rfl, l0, g0⟩ := hK
  exact ⟨ad, A0, c0, e, by have hq := hc 0 _ rfl; rwa [Nat.mul_one, Nat.add_zero] at hq, l0, g0⟩
structure S39 where
  f0 : Bool
  f1 : (List Int)
  f2 : (List Int)
  f3 : Int
  f4 : Int
  f5 : (List Int)
  f6 : Int
  f7 : Int
  f8 : Int
  f9 : (List Int)
def z39 : S39 := ⟨false, ([] : List Int), ([] : List Int), (0 : Int), (0 : Int), ([] : List Int), (0 : Int), (0 : Int), (0 : Int), ([] : List Int)⟩
def k39 : Kd S39 := Kd.iso (Kd.pair Kd.bool (Kd.pair (Kd.slice 5 (Kd.int .u8)) (Kd.pair (Kd.slice 5 (Kd.int .u8)) (Kd.pair (Kd.int .i64) (Kd.pair (Kd.int .i64) (Kd.pair (Kd.slice 5 (Kd.int .u8)) (Kd.pair (Kd.int .i64) (Kd.pair (Kd.int .i64) (Kd.pair (Kd.int .i64) (Kd.slice 5 (Kd.int .u8))))))))))) (fun x : S39 => (x.f0, x.f1, x.f2, x.f3, x.f4, x.f5, x.f6, x.f7, x.f8, x.f9))
structure S59 where
  f0 : (List Int)
  f1 : (List Int)
  f2 : Int
structure S51 where
  f0 : (List Int)
  f1 : (List Int)
  f2 : Int
end Go.Proofs.YtdeneoknjeegbaaDoor.P
end
section
set_option linter.unusedVariables false
set_option linter.unusedSimpArgs false
namespace Go.Proofs.YtdeneoknjeegbaaDoor.P
open Go.RowKit Go.Proofs.YtdeneoknjeegbaaDoorW.PrintWords Go.Proofs.YtdeneoknjeegbaaDoorW.PrintLast Go.Proofs.YtdeneoknjeegbaaDoorW.PrintMore
theorem still1 {P : Program} {f : FuncId} {args : Array Value} {w : World} {n : Nat} {v : Value} (h : Calls P f args (w.drewN n) fun e w' => e = .returned v ∧ w.drewN n = w') :
    Calls P f args (w.drewN n) fun e w'' => e = .returned v ∧ ∃ m, w'' = w.drewN m := h.mono fun _ _ ⟨he, hd⟩ => ⟨he, n, by rw [← hd]⟩
theorem drawn1_quiet {P : Program} {f : FuncId} {args : Array Value} {w : World} {n : Nat} {v : Value} (h : Calls P f args (w.drewN n) fun e w' => e = .returned v ∧ Drawn0 (w.drewN n) w') :
    Calls P f args (w.drewN n) fun e w'' => e = .returned v ∧ ∃ m, w'' = w.drewN m := h.mono fun _ _ ⟨he, hd⟩ => by
    obtain ⟨m, hm⟩ := hd.out
    exact ⟨he, n + m, by rw [hm, World.drewN_drewN]⟩
end Go.Proofs.YtdeneoknjeegbaaDoor.P
end
section
set_option linter.unusedVariables false
set_option linter.unusedSimpArgs false
namespace Go.Proofs.YtdeneoknjeegbaaDoor.P
def gn (l : List Int) (k : Nat) : Int := l.getD k 0
def swapL (l : List Int) (i j : Nat) : List Int := (l.set i (gn l j)).set j (gn l i)
theorem gn_lt {l : List Int} {k : Nat} (h : k < l.length) : gn l k = l[k] := by
  unfold gn
  rw [List.getD_eq_getElem?_getD, List.getElem?_eq_getElem h]
  rfl
theorem gn_swap {l : List Int} {i j : Nat} (hi : i < l.length) (hj : j < l.length) (k : Nat) : gn (swapL l i j) k = if k = j then gn l i else if k = i then gn l j else gn l k := by
  unfold swapL
  by_cases h1 : k = j
  · subst h1
    rw [if_pos rfl, gn_lt (by simpa using hj), List.getElem_set_self]
  · rw [if_neg h1]
    by_cases h2 : k = i
    · subst h2
      rw [if_pos rfl, gn_lt (by simpa using hi), List.getElem_set_ne (fun h => h1 h.symm), List.getElem_set_self]
    · rw [if_neg h2]
      unfold gn
      rw [List.getD_eq_getElem?_getD, List.getElem?_set_ne (fun h => h1 h.symm), List.getElem?_set_ne (fun h => h2 h.symm), List.getD_eq_getElem?_getD]
theorem swapL_perm {l : List Int} {i j : Nat} (hi : i < l.length) (hj : j < l.length) : (swapL l i j).Perm l := by
  unfold swapL
  rw [gn_lt hi, gn_lt hj]
  exact List.set_set_perm hi hj
def HeapN (n : Nat) (l : List Int) : Prop := ∀ k, 0 < k → k < n → gn l ((k - 1) / 2) ≤ gn l k
theorem HeapN.min {n : Nat} {l : List Int} (h : HeapN n l) : ∀ k, k < n → gn l 0 ≤ gn l k := by
  intro k
  induction k using Nat.strongRecOn with
  | _ k ih =>
    intro hk
    by_cases h0 : k = 0
    · subst h0
      exact Int.le_refl _
    · exact Int.le_trans (ih ((k - 1) / 2) (by omega) (by omega)) (h k (by omega) hk)
def HeapUp (n j : Nat) (l : List Int) : Prop := (∀ k, 0 < k → k < n → k ≠ j → gn l ((k - 1) / 2) ≤ gn l k) ∧ ∀ k, 0 < k → k < n → (k - 1) / 2 = j → 0 < j → gn l ((j - 1) / 2) ≤ gn l k
theorem HeapUp.stop {n j : Nat} {l : List Int} (h : HeapUp n j l) (hs : j = 0 ∨ gn l ((j - 1) / 2) ≤ gn l j) : HeapN n l := by
  intro k h0 hk
  by_cases hj : k = j
  · subst hj
    rcases hs with hs | hs
    · omega
    · exact hs
  · exact h.1 k h0 hk hj
theorem HeapUp.step {n j : Nat} {l : List Int} (h : HeapUp n j l) (hj : 0 < j) (hn : j < n) (hl : n ≤ l.length) (hs : gn l j < gn l ((j - 1) / 2)) : HeapUp n ((j - 1) / 2) (swapL l ((j - 1) / 2) j) := by
  obtain ⟨i, hi⟩ : ∃ i, i = (j - 1) / 2 := ⟨_, rfl⟩
  rw [← hi] at hs
  rw [← hi]
  have hg := fun k => gn_swap (l := l) (i := i) (j := j) (by omega) (by omega) k
  refine ⟨fun k h0 hk hki => ?_, fun k h0 hk hki h0i => ?_⟩
  · rw [hg, hg]
    have h1 := h.1 k h0 hk
    have h2 := h.2 k h0 hk
    by_cases hkj : k = j
    · subst hkj
      rw [if_neg (by omega), if_pos (by omega), if_pos rfl]
      omega
    · rw [if_neg hkj, if_neg hki]
      by_cases hp : (k - 1) / 2 = j
      · rw [if_pos hp, hi]
        exact h2 hp hj
      · rw [if_neg hp]
        by_cases hpi : (k - 1) / 2 = i
        · rw [if_pos hpi]
          have := h1 hkj
          rw [hpi] at this
          omega
        · rw [if_neg hpi]
          exact h1 hkj
  · rw [hg, hg]
    have h1 := h.1 i h0i (by omega) (by omega)
    rw [if_neg (by omega), if_neg (by omega)]
    by_cases hkj : k = j
    · rw [if_pos hkj]
      exact h1
    · rw [if_neg hkj, if_neg (by omega)]
      have h2 := h.1 k h0 hk hkj
      rw [hki] at h2
      omega
def HeapDn (n i : Nat) (l : List Int) : Prop := (∀ k, 0 < k → k < n → (k - 1) / 2 ≠ i → gn l ((k - 1) / 2) ≤ gn l k) ∧ ∀ k, 0 < k → k < n → (k - 1) / 2 = i → 0 < i → gn l ((i - 1) / 2) ≤ gn l k
theorem HeapDn.stop {n i : Nat} {l : List Int} (h : HeapDn n i l) (hs : ∀ k, 0 < k → k < n → (k - 1) / 2 = i → gn l i ≤ gn l k) : HeapN n l := by
  intro k h0 hk
  by_cases hi : (k - 1) / 2 = i
  · rw [hi]
    exact hs k h0 hk hi
  · exact h.1 k h0 hk hi
theorem HeapDn.step {n i j : Nat} {l : List Int} (h : HeapDn n i l) (hj : 0 < j) (hn : j < n) (hl : n ≤ l.length) (hp : (j - 1) / 2 = i) (hs : gn l j < gn l i) (hm : ∀ k, 0 < k → k < n → (k - 1) / 2 = i → gn l j ≤ gn l k) : HeapDn n j (swapL l i j) := by
  have hg := fun k => gn_swap (l := l) (i := i) (j := j) (by omega) (by omega) k
  refine ⟨fun k h0 hk hki => ?_, fun k h0 hk hki h0i => ?_⟩
  · rw [hg, hg]
    have h1 := h.1 k h0 hk
    have h2 := h.2 j hj hn hp
    by_cases hkj : k = j
    · subst hkj
      rw [if_neg (by omega), if_pos hp, if_pos rfl]
      omega
    · rw [if_neg hki, if_neg hkj]
      by_cases hpi : (k - 1) / 2 = i
      · rw [if_pos hpi, if_neg (by omega)]
        exact hm k h0 hk hpi
      · rw [if_neg hpi]
        by_cases hk2 : k = i
        · rw [if_pos hk2, hk2]
          exact h2 (by omega)
        · rw [if_neg hk2]
          exact h1 hpi
  · rw [hg, hg, hp]
    rw [if_neg (by omega), if_pos rfl, if_neg (by omega), if_neg (by omega)]
    have h1 := h.1 k h0 hk (by omega)
    rw [hki] at h1
    exact h1
theorem gn_append {l : List Int} {x : Int} {k : Nat} (h : k < l.length) : gn (l ++ [x]) k = gn l k := by
  unfold gn
  rw [List.getD_eq_getElem?_getD, List.getElem?_append_left h, List.getD_eq_getElem?_getD]
theorem HeapN.push {l : List Int} (h : HeapN l.length l) (x : Int) : HeapUp (l ++ [x]).length l.length (l ++ [x]) := by
  rw [List.length_append, List.length_singleton]
  refine ⟨fun k h0 hk hn => ?_, fun k h0 hk hn _ => by omega⟩
  rw [gn_append (by omega), gn_append (by omega)]
  exact h k h0 (by omega)
theorem HeapN.swap_last {l : List Int} {n : Nat} (h : HeapN l.length l) (hn : l.length = n + 1) : HeapDn n 0 (swapL l 0 n) := by
  have hg := fun k => gn_swap (l := l) (i := 0) (j := n) (by omega) (by omega) k
  refine ⟨fun k h0 hk hi => ?_, fun k h0 hk hi h => absurd h (by omega)⟩
  rw [hg, hg, if_neg (by omega), if_neg hi, if_neg (by omega), if_neg (by omega)]
  exact h k h0 (by omega)
theorem gn_take {l : List Int} {n k : Nat} (h : k < n) : gn (l.take n) k = gn l k := by
  unfold gn
  rw [List.getD_eq_getElem?_getD, List.getElem?_take, if_pos h, List.getD_eq_getElem?_getD]
theorem HeapN.take {l : List Int} {n : Nat} (h : HeapN n l) : HeapN n (l.take n) := by
  intro k h0 hk
  rw [gn_take (by omega), gn_take hk]
  exact h k h0 hk
end Go.Proofs.YtdeneoknjeegbaaDoor.P
end
section
set_option linter.unusedVariables false
set_option linter.unusedSimpArgs false
namespace Go.Proofs.YtdeneoknjeegbaaDoor.P
open Go.RowKit Go.Proofs.YtdeneoknjeegbaaDoorW.PrintWords Go.Proofs.YtdeneoknjeegbaaDoorW.PrintLast Go.Proofs.YtdeneoknjeegbaaDoorW.PrintMore
abbrev Nd := S39
abbrev kNd : Kd Nd := k39
abbrev Places := List (Bool × Nd)
def ABlk (w : World) (p : Nat) (size room : Int) (vc vf : Value) : Prop := w.heap[p]? = some (.cells #[.int .i64 size, .int .i64 room, vc, vf] 77 (0, 0))
theorem ABlk.below {w w1 : World} {p : Nat} {size room : Int} {vc vf : Value} (h : ABlk w p size room vc vf) (hb : Below w.heap.size w w1) : ABlk w1 p size room vc vf := blk_below h hb
theorem ABlk.lt {w : World} {p : Nat} {size room : Int} {vc vf : Value} (h : ABlk w p size room vc vf) : p < w.heap.size := blk_lt h
theorem ABlk.cells {w : World} {p : Nat} {size room : Int} {vc vf : Value} (h : ABlk w p size room vc vf) : w.cell? ⟨p, 0, none⟩ = some (.int .i64 size) ∧ w.cell? ⟨p, 1, none⟩ = some (.int .i64 room) ∧ w.cell? ⟨p, 2, none⟩ = some vc ∧ w.cell? ⟨p, 3, none⟩ = some vf :=
  ⟨blk_cell h 0, blk_cell h 1, blk_cell h 2, blk_cell h 3⟩
theorem none_calls {w : World} {p : Nat} {size room : Int} {vc vf : Value} (h : ABlk w p size room vc vf) (hs : size ≠ 0) :
    Calls Tryd.prog 47 #[.pointer (some ⟨p, 0, none⟩)] w fun e w' => e = .returned (.bool false) ∧ w = w' := by
  obtain ⟨c0, c1, c2, c3⟩ := h.cells
  have hs0 : (size == 0) = false := by simpa using hs
  go_enter Tryd.func47, Tryd.ntmps47
  go_wp2_with fail
  go_ret
  exact ⟨rfl, rfl⟩
theorem len_calls (A : Option Addr) (n c : Nat) (w : World) :
    Calls Tryd.prog 48 #[.slice A n c] w fun e w' => e = .returned (.int .i64 (n : Int)) ∧ w = w' := by
  go_enter Tryd.func48, Tryd.ntmps48
  go_wp2_with fail
  go_ret
  exact ⟨rfl, rfl⟩
theorem used_calls {w : World} {p : Nat} {size room : Int} {A A' : Option Addr} {n n' c c' : Nat} (h : ABlk w p size room (.slice A n c) (.slice A' n' c')) (hs : size ≠ 0) (hn : (n : Int) ≤ 9223372036854775807) (hn' : (n' : Int) ≤ 9223372036854775807) :
    Calls Tryd.prog 15 #[.pointer (some ⟨p, 0, none⟩)] w fun e w' => e = .returned (.int .i64 ((n : Int) - (n' : Int))) ∧ Drawn0 w w' := by
  have HBk := Aside0.mk h
  have HS := Aside0.mk hs
  clear h hs
  go_enter Tryd.func15, Tryd.ntmps15
  go_wp2_with fail
  refine (none_calls HBk.out HS.out).mono ?_
  rintro e w' ⟨rfl, rfl⟩
  obtain ⟨c0, c1, c2, c3⟩ := HBk.out.cells
  have ws : IntKind.i64.wrap ((n : Int) - (n' : Int)) = (n : Int) - (n' : Int) := IntWalk.i64_in _ ⟨by omega, by omega⟩
  go_wp2_with fail
  go_quiet ((go_at_call 48; (first | with_reducible exact still0 (len_calls A' n' c' _) | with_reducible exact still2 (len_calls A' n' c' _) | with_reducible exact still1 (len_calls A' n' c' _))))
  go_wp2_with fail
  go_ret
  exact ⟨rfl, ⟨_, rfl⟩⟩
theorem room_calls {w : World} {p : Nat} {size room : Int} {A A' : Option Addr} {n n' c c' : Nat} (h : ABlk w p size room (.slice A n c) (.slice A' n' c')) (hs : size ≠ 0) (hn : (n : Int) ≤ 4294967296) (hn' : (n' : Int) ≤ 4294967296) (hr0 : 0 ≤ room) (hr1 : room ≤ 4294967296) :
    Calls Tryd.prog 19 #[.pointer (some ⟨p, 0, none⟩)] w fun e w' => e = .returned (.int .i64 (room - ((n : Int) - (n' : Int)))) ∧ Drawn0 w w' := by
  have HBk := Aside0.mk h
  have HS := Aside0.mk hs
  obtain ⟨u, hu⟩ : ∃ u, u = (n : Int) - (n' : Int) := ⟨_, rfl⟩
  rw [← hu]
  clear h hs
  go_enter Tryd.func19, Tryd.ntmps19
  go_wp2_with fail
  refine (none_calls HBk.out HS.out).mono ?_
  rintro e w' ⟨rfl, rfl⟩
  obtain ⟨c0, c1, c2, c3⟩ := HBk.out.cells
  have ws : IntKind.i64.wrap (room - u) = room - u := IntWalk.i64_in _ ⟨by omega, by omega⟩
  have HU := Aside0.mk hu
  have HUC : ∀ m, Calls Tryd.prog 15 #[.pointer (some ⟨p, 0, none⟩)] (w.drewN m) fun e w' => e = .returned (.int .i64 u) ∧ Drawn0 (w.drewN m) w' := fun m => by
    rw [HU.out]
    exact used_calls (w := w.drewN m) HBk.out HS.out (by omega) (by omega)
  have HUC := Aside0.mk HUC
  clear hu
  go_wp2_with fail
  go_quiet ((go_at_call 15; (first | with_reducible exact drawn2_quiet (HUC.out _) | with_reducible exact drawn1_quiet (HUC.out _) | exact drawn0_quiet (HUC.out 0))))
  go_wp2_with fail
  go_ret
  exact ⟨rfl, ⟨_, rfl⟩⟩
theorem at_neg {w : World} {p : Nat} {size room : Int} {vc vf : Value} (h : ABlk w p size room vc vf) (hs : size ≠ 0) (i : Int) (hi : i < 0) :
    Calls Tryd.prog 51 #[.pointer (some ⟨p, 0, none⟩), .int .i64 i] w fun e w' => e = .returned (.pointer none) ∧ w = w' := by
  have HBk := Aside0.mk h
  have HS := Aside0.mk hs
  have hk4 : decide (i < 0) = true := decide_eq_true hi
  clear h hs hi
  go_enter Tryd.func51, Tryd.ntmps51
  go_wp2_with fail
  refine (none_calls HBk.out HS.out).mono ?_
  rintro e w' ⟨rfl, rfl⟩
  obtain ⟨c0, c1, c2, c3⟩ := HBk.out.cells
  go_wp2_with fail
  go_ret
  exact ⟨rfl, rfl⟩
theorem at_past {w : World} {p : Nat} {size room : Int} {A : Option Addr} {n c : Nat} {vf : Value} (h : ABlk w p size room (.slice A n c) vf) (hs : size ≠ 0) (i : Int) (h0 : 0 ≤ i) (hi : (n : Int) ≤ i) :
    Calls Tryd.prog 51 #[.pointer (some ⟨p, 0, none⟩), .int .i64 i] w fun e w' => e = .returned (.pointer none) ∧ w = w' := by
  have HBk := Aside0.mk h
  have HS := Aside0.mk hs
  have hk4 : decide (i < 0) = false := decide_eq_false (by omega)
  have hk5 : decide ((n : Int) ≤ i) = true := decide_eq_true hi
  clear h hs
  go_enter Tryd.func51, Tryd.ntmps51
  go_wp2_with fail
  refine (none_calls HBk.out HS.out).mono ?_
  rintro e w' ⟨rfl, rfl⟩
  obtain ⟨c0, c1, c2, c3⟩ := HBk.out.cells
  go_wp2_with fail
  go_ret
  exact ⟨rfl, rfl⟩
end Go.Proofs.YtdeneoknjeegbaaDoor.P
end
section
set_option linter.unusedVariables false
set_option linter.unusedSimpArgs false
namespace Go.Proofs.YtdeneoknjeegbaaDoor.P
open Go.RowKit Go.Proofs.YtdeneoknjeegbaaDoorW.PrintWords Go.Proofs.YtdeneoknjeegbaaDoorW.PrintLast Go.Proofs.YtdeneoknjeegbaaDoorW.PrintMore
def slices_Clone_byte_byte.f (l0 : List Int) : Option (List Int) := if l0.length < 140737488355328 then some l0 else none
set_option maxHeartbeats 1000000 in
set_option maxRecDepth 100000 in
theorem slices_Clone_byte_byte.calls (A0 : Option Addr) (c0 : Nat) (l0 : List Int) (r : List Int) (w : World) (hr0 : Kd.C (Kd.int .u8) w A0 l0.length l0) (hc0 : l0.length ≤ c0) (h : slices_Clone_byte_byte.f l0 = some r) :
    Calls Tryd.prog 52 #[.slice A0 l0.length c0] w fun e w' => ∃ v0_ : Value, e = .returned (v0_) ∧ Kd.R (Kd.int .u8) 5 w' w.heap.size (fun _ => True) v0_ r ∧ Below w.heap.size w w' := by
  unfold slices_Clone_byte_byte.f at h
  split at h
  case isFalse => cases h
  case isTrue hb =>
    obtain rfl := Option.some.inj h
    have HR := Aside0.mk hr0
    clear h
    cases A0 with
    | none =>
      have h0 : l0.length = 0 := by
        by_cases h : 0 < l0.length
        · obtain ⟨ad, e, _⟩ := (Kd.reads_of_C (d := (0 : Int)) hr0).2.2 h
          cases e
        · omega
      obtain rfl := List.eq_nil_of_length_eq_zero h0
      clear hr0
      have hnil : ∀ W : World, (binOp .eql 31 (.slice none 0 c0) (.slice none 0 0)).run Tryd.prog W = .ok (.bool true) W := fun _ => by kernel_rfl
      go_enter Tryd.func52, Tryd.ntmps52
      go_wp2_with fail
      go_ret
      exact ⟨_, rfl, Kd.R_nil _ _ _ _ _, Below.refl _ _⟩
    | some ad =>
      clear hr0
      have hnil : ∀ W : World, (binOp .eql 31 (.slice (some ad) l0.length c0) (.slice none 0 0)).run Tryd.prog W = .ok (.bool false) W := fun _ => by kernel_rfl
      go_enter Tryd.func52, Tryd.ntmps52
      go_wp2_with (first | ((with_reducible refine gate_dst (N := 5) rfl ?_); refine Kd.R_lit (Kd.int .u8) _ 5 ?hg (N := 5) ?hd (xs := ([] : List Int)) (inner := []) (ok := fun _ => True) (okp := fun _ => True) ?hr ?hp (fun _ hk => hk) trivial (Below.refl _ _) (Nat.le_refl _) (by simp) ?_; (case hd => rfl); (case hg => rfl); (case hr => first | (go_simp; done) | (go_simp; rfl)); (case hp => exact (Reps.none _ _)); intro v1 w1 ho1 hb1 hg1 hn1; have HO1 := Aside0.mk ho1; have HB1 := Aside0.mk hb1; clear ho1 hb1 hg1 hn1) | ((with_reducible refine gate_builtin (b := .append) (xs := #[.tmp 5, .tmp 6]) rfl ?_); at_builtin; refine Kd.R_append_rows (Kd.int .u8) (w0 := w) w.heap.size rfl (.tmp 5) (.tmp 6) 31 5 (.int .u8 0) 1 rfl Tryd.underlying31 info5 rfl (by decide) (by omega) v1 [] l0 _ _ _ (fun _ => True) (fun _ => False) rfl rfl ?aO ?aR (fun _ _ h => h) (fun _ h => h.elim) ?aF ?aB ?aS ?aL ?_; (case aR => exact Kd.C_below HR.out HB1.out); (case aB => exact HB1.out); (case aF => exact (fun _ _ => trivial)); (case aO => exact HO1.out); (case aS => exact HB1.out.size); (case aL => simp; omega); intro v2 w2 ho hb2 hg hat; have HO2 := Aside0.mk ho; have HB2 := Aside0.mk hb2; clear ho hb2 hg hat))
      go_ret
      exact ⟨_, rfl, HO2.out, HB2.out⟩
end Go.Proofs.YtdeneoknjeegbaaDoor.P
end
section
namespace Go.Proofs.YtdeneoknjeegbaaDoor.P
open Go.RowKit Go.Proofs.YtdeneoknjeegbaaDoorW.PrintWords Go.Proofs.YtdeneoknjeegbaaDoorW.PrintLast Go.Proofs.YtdeneoknjeegbaaDoorW.PrintMore
attribute [local go_sem] max2_int min2_int max_two min_two max_three min_three max_four min_four
set_option linter.unusedVariables false
set_option linter.unusedSimpArgs false
def bits_RotateLeft32.f (a0 : Int) (a1 : Int) : Option (Int) := if 0 ≤ (Go.bits .and .u64 (IntKind.u64.wrap (a1)) 31) then (if 0 ≤ (IntKind.u64.wrap (32 - (Go.bits .and .u64 (IntKind.u64.wrap (a1)) 31))) then (some (Go.bits .or .u32 (shl .u32 a0 (Go.bits .and .u64 (IntKind.u64.wrap (a1)) 31)) (shr .u32 a0 (IntKind.u64.wrap (32 - (Go.bits .and .u64 (IntKind.u64.wrap (a1)) 31)))))) else (none)) else (none)
set_option maxHeartbeats 8000000 in
set_option maxRecDepth 100000 in
theorem bits_RotateLeft32.calls (a0 : Int) (a1 : Int) (r : Int) (w : World) (h : bits_RotateLeft32.f a0 a1 = some r) :
    Calls Tryd.prog 118 #[.int .u32 a0, .int .i64 a1] w fun e w' => e = .returned (.int .u32 r) ∧ Drawn0 w w' := by
  have H : (if 0 ≤ (Go.bits .and .u64 (IntKind.u64.wrap (a1)) 31) then (if 0 ≤ (IntKind.u64.wrap (32 - (Go.bits .and .u64 (IntKind.u64.wrap (a1)) 31))) then (some (Go.bits .or .u32 (shl .u32 a0 (Go.bits .and .u64 (IntKind.u64.wrap (a1)) 31)) (shr .u32 a0 (IntKind.u64.wrap (32 - (Go.bits .and .u64 (IntKind.u64.wrap (a1)) 31)))))) else (none)) else (none)) = some r := h
  clear h
  obtain ⟨ji3, hji3⟩ : ∃ j_ : Int, (Go.bits .and .u64 (IntKind.u64.wrap (a1)) 31) = j_ := ⟨_, rfl⟩
  replace H : (if 0 ≤ (ji3) then (if 0 ≤ (IntKind.u64.wrap (32 - (ji3))) then (some (Go.bits .or .u32 (shl .u32 a0 (ji3)) (shr .u32 a0 (IntKind.u64.wrap (32 - (ji3)))))) else (none)) else (none)) = some r := by first | (rw [hji3] at H; exact H) | (simp only [hji3] at H ⊢; exact H)
  by_cases c4 : 0 ≤ (ji3)
  · rw [if_pos c4] at H
    have c4b0 := eq_true c4
    have c4b1 : decide (0 ≤ (ji3)) = true := decide_eq_true c4
    clear c4
    obtain ⟨ji5, hji5⟩ : ∃ j_ : Int, (shl .u32 a0 (ji3)) = j_ := ⟨_, rfl⟩
    replace H : (if 0 ≤ (IntKind.u64.wrap (32 - (ji3))) then (some (Go.bits .or .u32 (ji5) (shr .u32 a0 (IntKind.u64.wrap (32 - (ji3)))))) else (none)) = some r := by first | (rw [hji5] at H; exact H) | (simp only [hji5] at H ⊢; exact H)
    have hji5_ : (IntKind.u32.wrap (a0 * 2 ^ min (ji3).toNat 32)) = ji5 := hji5
    have hji5z : (ji3) ≤ 32 → (IntKind.u32.wrap (a0 * 2 ^ (ji3).toNat)) = ji5 := shl_small hji5
    obtain ⟨ji6, hji6⟩ : ∃ j_ : Int, (IntKind.u64.wrap (32 - (ji3))) = j_ := ⟨_, rfl⟩
    replace H : (if 0 ≤ (ji6) then (some (Go.bits .or .u32 (ji5) (shr .u32 a0 (ji6)))) else (none)) = some r := by first | (rw [hji6] at H; exact H) | (simp only [hji6] at H ⊢; exact H)
    by_cases c7 : 0 ≤ (ji6)
    · rw [if_pos c7] at H
      have c7b0 := eq_true c7
      have c7b1 : decide (0 ≤ (ji6)) = true := decide_eq_true c7
      clear c7
      obtain ⟨ji8, hji8⟩ : ∃ j_ : Int, (shr .u32 a0 (ji6)) = j_ := ⟨_, rfl⟩
      replace H : (some (Go.bits .or .u32 (ji5) (ji8))) = some r := by first | (rw [hji8] at H; exact H) | (simp only [hji8] at H ⊢; exact H)
      have hji8_ : (a0 / 2 ^ min (ji6).toNat 32) = ji8 := hji8
      have hji8z : (ji6) ≤ 32 → (a0 / 2 ^ (ji6).toNat) = ji8 := shr_small hji8
      obtain rfl := Option.some.inj H
      go_enter Tryd.func118, Tryd.ntmps118
      go_wp2
      go_ret
      exact ⟨by first | rfl | (simp; done) | (simp only [← hji3, ← hji5, ← hji6, ← hji8] <;> (first | rfl | simp)) | (simp [*]; done), by repeat (first | exact Drawn0.refl _ | apply Drawn0.step)⟩
    · rw [if_neg c7] at H
      exact absurd H (by simp)
  · rw [if_neg c4] at H
    exact absurd H (by simp)
end Go.Proofs.YtdeneoknjeegbaaDoor.P
end
section
namespace Go.Proofs.YtdeneoknjeegbaaDoor.P
open Go.RowKit Go.Proofs.YtdeneoknjeegbaaDoorW.PrintWords Go.Proofs.YtdeneoknjeegbaaDoorW.PrintLast Go.Proofs.YtdeneoknjeegbaaDoorW.PrintMore
attribute [local go_sem] max2_int min2_int max_two min_two max_three min_three max_four min_four
set_option linter.unusedVariables false
set_option linter.unusedSimpArgs false
def sha_gamma.f (a0 : Int) (a1 : Int) (a2 : Int) (a3 : Int) : Option (Int) := (bits_RotateLeft32.f a0 (wrap64 (32 - a1))).bind fun t115 => ((bits_RotateLeft32.f a0 (wrap64 (32 - a2))).bind fun t116 => (if 0 ≤ a3 then (some (Go.bits .xor .u32 (Go.bits .xor .u32 t115 t116) (shr .u32 a0 a3))) else (none)))
set_option maxHeartbeats 8000000 in
set_option maxRecDepth 100000 in
theorem sha_gamma.calls (a0 : Int) (a1 : Int) (a2 : Int) (a3 : Int) (r : Int) (w : World) (h : sha_gamma.f a0 a1 a2 a3 = some r) :
    Calls Tryd.prog 117 #[.int .u32 a0, .int .i64 a1, .int .i64 a2, .int .i64 a3] w fun e w' => e = .returned (.int .u32 r) ∧ Drawn0 w w' := by
  have H : ((bits_RotateLeft32.f a0 (wrap64 (32 - a1))).bind fun t115 => ((bits_RotateLeft32.f a0 (wrap64 (32 - a2))).bind fun t116 => (if 0 ≤ a3 then (some (Go.bits .xor .u32 (Go.bits .xor .u32 t115 t116) (shr .u32 a0 a3))) else (none)))) = some r := h
  clear h
  replace H := Option.bind_eq_some_iff.mp H
  obtain ⟨t115, A50, H⟩ := H
  replace H : ((bits_RotateLeft32.f a0 (wrap64 (32 - a2))).bind fun t116 => (if 0 ≤ a3 then (some (Go.bits .xor .u32 (Go.bits .xor .u32 t115 t116) (shr .u32 a0 a3))) else (none))) = some r := H
  have A5 := Aside0.mk A50
  clear A50
  replace H := Option.bind_eq_some_iff.mp H
  obtain ⟨t116, A60, H⟩ := H
  replace H : (if 0 ≤ a3 then (some (Go.bits .xor .u32 (Go.bits .xor .u32 t115 t116) (shr .u32 a0 a3))) else (none)) = some r := H
  have A6 := Aside0.mk A60
  clear A60
  by_cases c7 : 0 ≤ a3
  · rw [if_pos c7] at H
    have c7b0 := eq_true c7
    have c7b1 : decide (0 ≤ a3) = true := decide_eq_true c7
    clear c7
    obtain ⟨ji8, hji8⟩ : ∃ j_ : Int, (shr .u32 a0 a3) = j_ := ⟨_, rfl⟩
    replace H : (some (Go.bits .xor .u32 (Go.bits .xor .u32 t115 t116) (ji8))) = some r := by first | (rw [hji8] at H; exact H) | (simp only [hji8] at H ⊢; exact H)
    (try rw [hji8] at A5)
    (try rw [hji8] at A6)
    have hji8_ : (a0 / 2 ^ min a3.toNat 32) = ji8 := hji8
    have hji8z : a3 ≤ 32 → (a0 / 2 ^ a3.toNat) = ji8 := shr_small hji8
    obtain rfl := Option.some.inj H
    go_enter Tryd.func117, Tryd.ntmps117
    go_wp2_with (first | (go_at_call 118; (with_reducible refine (bits_RotateLeft32.calls a0 (wrap64 (32 - a1)) t115 _ A5.out).mono ?_); rintro e w' ⟨rfl, ⟨nd, rfl⟩⟩; (try first | exact ⟨rfl, _, World.drewN_drewN _ _ _⟩ | exact ⟨rfl, _, Eq.trans (World.drewN_drewN _ _ _) (congrArg (World.drewN _) (Nat.add_assoc _ _ _))⟩)) | (go_at_call 118; (with_reducible refine (bits_RotateLeft32.calls a0 (wrap64 (32 - a2)) t116 _ A6.out).mono ?_); rintro e w' ⟨rfl, ⟨nd, rfl⟩⟩; (try first | exact ⟨rfl, _, World.drewN_drewN _ _ _⟩ | exact ⟨rfl, _, Eq.trans (World.drewN_drewN _ _ _) (congrArg (World.drewN _) (Nat.add_assoc _ _ _))⟩)))
    repeat (go_quiet (first | (go_at_call 118; (with_reducible refine (bits_RotateLeft32.calls a0 (wrap64 (32 - a1)) t115 _ A5.out).mono ?_); rintro e w' ⟨rfl, ⟨nd, rfl⟩⟩; (try first | exact ⟨rfl, _, World.drewN_drewN _ _ _⟩ | exact ⟨rfl, _, Eq.trans (World.drewN_drewN _ _ _) (congrArg (World.drewN _) (Nat.add_assoc _ _ _))⟩)) | (go_at_call 118; (with_reducible refine (bits_RotateLeft32.calls a0 (wrap64 (32 - a2)) t116 _ A6.out).mono ?_); rintro e w' ⟨rfl, ⟨nd, rfl⟩⟩; (try first | exact ⟨rfl, _, World.drewN_drewN _ _ _⟩ | exact ⟨rfl, _, Eq.trans (World.drewN_drewN _ _ _) (congrArg (World.drewN _) (Nat.add_assoc _ _ _))⟩))); try go_wp2_with (first | (go_at_call 118; (with_reducible refine (bits_RotateLeft32.calls a0 (wrap64 (32 - a1)) t115 _ A5.out).mono ?_); rintro e w' ⟨rfl, ⟨nd, rfl⟩⟩; (try first | exact ⟨rfl, _, World.drewN_drewN _ _ _⟩ | exact ⟨rfl, _, Eq.trans (World.drewN_drewN _ _ _) (congrArg (World.drewN _) (Nat.add_assoc _ _ _))⟩)) | (go_at_call 118; (with_reducible refine (bits_RotateLeft32.calls a0 (wrap64 (32 - a2)) t116 _ A6.out).mono ?_); rintro e w' ⟨rfl, ⟨nd, rfl⟩⟩; (try first | exact ⟨rfl, _, World.drewN_drewN _ _ _⟩ | exact ⟨rfl, _, Eq.trans (World.drewN_drewN _ _ _) (congrArg (World.drewN _) (Nat.add_assoc _ _ _))⟩))))
    go_ret
    exact ⟨by first | rfl | (simp; done) | (simp only [← hji8] <;> (first | rfl | simp)) | (simp [*]; done), by repeat (first | exact Drawn0.refl _ | apply Drawn0.step)⟩
  · rw [if_neg c7] at H
    exact absurd H (by simp)
end Go.Proofs.YtdeneoknjeegbaaDoor.P
end
section
namespace Go.Proofs.YtdeneoknjeegbaaDoor.P
open Go.RowKit Go.Proofs.YtdeneoknjeegbaaDoorW.PrintWords Go.Proofs.YtdeneoknjeegbaaDoorW.PrintLast Go.Proofs.YtdeneoknjeegbaaDoorW.PrintMore
attribute [local go_sem] max2_int min2_int max_two min_two max_three min_three max_four min_four
set_option linter.unusedVariables false
set_option linter.unusedSimpArgs false
def sha_sigma.f (a0 : Int) (a1 : Int) (a2 : Int) (a3 : Int) : Option (Int) := (bits_RotateLeft32.f a0 (wrap64 (32 - a1))).bind fun t117 => ((bits_RotateLeft32.f a0 (wrap64 (32 - a2))).bind fun t118 => ((bits_RotateLeft32.f a0 (wrap64 (32 - a3))).bind fun t119 => (some (Go.bits .xor .u32 (Go.bits .xor .u32 t117 t118) t119))))
set_option maxHeartbeats 8000000 in
set_option maxRecDepth 100000 in
theorem sha_sigma.calls (a0 : Int) (a1 : Int) (a2 : Int) (a3 : Int) (r : Int) (w : World) (h : sha_sigma.f a0 a1 a2 a3 = some r) :
    Calls Tryd.prog 116 #[.int .u32 a0, .int .i64 a1, .int .i64 a2, .int .i64 a3] w fun e w' => e = .returned (.int .u32 r) ∧ Drawn0 w w' := by
  have H : ((bits_RotateLeft32.f a0 (wrap64 (32 - a1))).bind fun t117 => ((bits_RotateLeft32.f a0 (wrap64 (32 - a2))).bind fun t118 => ((bits_RotateLeft32.f a0 (wrap64 (32 - a3))).bind fun t119 => (some (Go.bits .xor .u32 (Go.bits .xor .u32 t117 t118) t119))))) = some r := h
  clear h
  replace H := Option.bind_eq_some_iff.mp H
  obtain ⟨t117, A50, H⟩ := H
  replace H : ((bits_RotateLeft32.f a0 (wrap64 (32 - a2))).bind fun t118 => ((bits_RotateLeft32.f a0 (wrap64 (32 - a3))).bind fun t119 => (some (Go.bits .xor .u32 (Go.bits .xor .u32 t117 t118) t119)))) = some r := H
  have A5 := Aside0.mk A50
  clear A50
  replace H := Option.bind_eq_some_iff.mp H
  obtain ⟨t118, A60, H⟩ := H
  replace H : ((bits_RotateLeft32.f a0 (wrap64 (32 - a3))).bind fun t119 => (some (Go.bits .xor .u32 (Go.bits .xor .u32 t117 t118) t119))) = some r := H
  have A6 := Aside0.mk A60
  clear A60
  replace H := Option.bind_eq_some_iff.mp H
  obtain ⟨t119, A70, H⟩ := H
  replace H : (some (Go.bits .xor .u32 (Go.bits .xor .u32 t117 t118) t119)) = some r := H
  have A7 := Aside0.mk A70
  clear A70
  obtain rfl := Option.some.inj H
  go_enter Tryd.func116, Tryd.ntmps116
  go_wp2_with (first | ((with_reducible refine gate_callee (f := 118) rfl ?_); refine goesL_ (some 12) rfl rfl Tryd.func118 (by kernel_rfl) rfl #[.int .u32 a0, .int .i64 (wrap64 (32 - a1))] rfl (by (try simp only [List.map_toArray, List.map_cons, List.map_nil]); first | done | rfl | (simp only [List.length_drop, List.length_take]; rfl)) ?_; (with_reducible refine (bits_RotateLeft32.calls a0 (wrap64 (32 - a1)) t117 _ A5.out).mono ?_); rintro e w' ⟨rfl, ⟨nd, rfl⟩⟩; refine ⟨_, rfl, ?_⟩) | ((with_reducible refine gate_callee (f := 118) rfl ?_); refine goesL_ (some 16) rfl rfl Tryd.func118 (by kernel_rfl) rfl #[.int .u32 a0, .int .i64 (wrap64 (32 - a2))] rfl (by (try simp only [List.map_toArray, List.map_cons, List.map_nil]); first | done | rfl | (simp only [List.length_drop, List.length_take]; rfl)) ?_; (with_reducible refine (bits_RotateLeft32.calls a0 (wrap64 (32 - a2)) t118 _ A6.out).mono ?_); rintro e w' ⟨rfl, ⟨nd, rfl⟩⟩; refine ⟨_, rfl, ?_⟩) | ((with_reducible refine gate_callee (f := 118) rfl ?_); refine goesL_ (some 21) rfl rfl Tryd.func118 (by kernel_rfl) rfl #[.int .u32 a0, .int .i64 (wrap64 (32 - a3))] rfl (by (try simp only [List.map_toArray, List.map_cons, List.map_nil]); first | done | rfl | (simp only [List.length_drop, List.length_take]; rfl)) ?_; (with_reducible refine (bits_RotateLeft32.calls a0 (wrap64 (32 - a3)) t119 _ A7.out).mono ?_); rintro e w' ⟨rfl, ⟨nd, rfl⟩⟩; refine ⟨_, rfl, ?_⟩))
  go_ret
  exact ⟨by first | rfl | (simp; done) | (simp [*]; done), by repeat (first | exact Drawn0.refl _ | apply Drawn0.step)⟩
end Go.Proofs.YtdeneoknjeegbaaDoor.P
end
section
set_option linter.unusedVariables false
set_option linter.unusedSimpArgs false
namespace Go.Proofs.YtdeneoknjeegbaaDoor.P
open Go.RowKit Go.Proofs.YtdeneoknjeegbaaDoorW.PrintWords Go.Proofs.YtdeneoknjeegbaaDoorW.PrintLast Go.Proofs.YtdeneoknjeegbaaDoorW.PrintMore
def shaFirst : List Int := [1779033703, 3144134277, 1013904242, 2773480762, 1359893119, 2600822924, 528734635, 1541459225]
def shaAdded : List Int := [1116352408, 1899447441, 3049323471, 3921009573, 961987163, 1508970993, 2453635748, 2870763221, 3624381080, 310598401, 607225278, 1426881987, 1925078388, 2162078206, 2614888103, 3248222580, 3835390401, 4022224774, 264347078, 604807628, 770255983, 1249150122, 1555081692, 1996064986, 2554220882, 2821834349, 2952996808, 3210313671, 3336571891, 3584528711, 113926993, 338241895, 666307205, 773529912, 1294757372, 1396182291, 1695183700, 1986661051, 2177026350, 2456956037, 2730485921, 2820302411, 3259730800, 3345764771, 3516065817, 3600352804, 4094571909, 275423344, 430227734, 506948616, 659060556, 883997877, 958139571, 1322822218, 1537002063, 1747873779, 1955562222, 2024104815, 2227730452, 2361852424, 2428436474, 2756734187, 3204031479, 3329325298]
def GlobS (w : World) : Prop := (∀ j, j < 8 → w.cell? ⟨0, j, none⟩ = some (.int .u32 (shaFirst.getD j 0))) ∧ (∀ j, j < 64 → w.cell? ⟨1, j, none⟩ = some (.int .u32 (shaAdded.getD j 0)))
theorem GlobS.of {w0 w : World} (h : GlobS w0) (hb : Below w0.heap.size w0 w) : GlobS w :=
  ⟨fun j hj => (hb.cell (World.block_lt_of_cell? w0 _ (h.1 j hj))).trans (h.1 j hj), fun j hj => (hb.cell (World.block_lt_of_cell? w0 _ (h.2 j hj))).trans (h.2 j hj)⟩
theorem GlobS.alloc {w : World} (h : GlobS w) (o : Obj) : GlobS (w.alloc o) := h.of (below_alloc (Below.refl _ _) o)
end Go.Proofs.YtdeneoknjeegbaaDoor.P
end
section
set_option linter.unusedVariables false
set_option linter.unusedSimpArgs false
namespace Go.Proofs.YtdeneoknjeegbaaDoor.P
open Go.RowKit Go.Proofs.YtdeneoknjeegbaaDoorW.PrintWords Go.Proofs.YtdeneoknjeegbaaDoorW.PrintLast Go.Proofs.YtdeneoknjeegbaaDoorW.PrintMore
def words (xs : List Int) : Array Value := (xs.map (Value.int .u32)).toArray
theorem words_get (xs : List Int) (i : Nat) (h : i < xs.length) : (words xs)[i]? = some (.int .u32 (xs.getD i 0)) := by
  unfold words
  rw [List.getElem?_toArray, List.getElem?_map, List.getElem?_eq_getElem h, List.getD_eq_getElem?_getD, List.getElem?_eq_getElem h]
  rfl
theorem words_set (xs : List Int) (i : Nat) (x : Int) : (words xs).setIfInBounds i (.int .u32 x) = words (xs.set i x) := by
  unfold words
  rw [List.map_set]
  simp
def IsWords (w : World) (g t : Nat) (xs : List Int) : Prop := w.heap[g]? = some (.cells (words xs) t (0, 0))
theorem IsWords.cell {w : World} {g t : Nat} {xs : List Int} (h : IsWords w g t xs) (i : Nat) (hi : i < xs.length) : w.cell? ⟨g, i, none⟩ = some (.int .u32 (xs.getD i 0)) :=
  (blk_cell h i).trans (words_get xs i hi)
theorem IsWords.frozen {w : World} {g t : Nat} {xs : List Int} (h : IsWords w g t xs) (i : Nat) : w.frozen? ⟨g, i, none⟩ = false := blk_frozen h i
theorem IsWords.set {w : World} {g t : Nat} {xs : List Int} (h : IsWords w g t xs) (i : Nat) (x : Int) : IsWords (w.setCell ⟨g, i, none⟩ (.int .u32 x)) g t (xs.set i x) := by
  unfold IsWords
  rw [← words_set]
  exact blk_set h i _
theorem IsWords.drewN {w : World} {g t : Nat} {xs : List Int} (h : IsWords w g t xs) (n : Nat) : IsWords (w.drewN n) g t xs := h
def zeros64 : List Int := List.replicate 64 0
def sched2At (xs : List Int) (i : Nat) : Int := ((((sha_gamma.f (xs.getD (i - 2) 0) 17 19 10).getD 0 + xs.getD (i - 7) 0) % 4294967296 + (sha_gamma.f (xs.getD (i - 15) 0) 7 18 3).getD 0) % 4294967296 + xs.getD (i - 16) 0) % 4294967296
def sched2 (xs : List Int) : Nat → List Int
  | 0 => xs
  | k + 1 => (sched2 xs k).set (k + 16) (sched2At (sched2 xs k) (k + 16))
def sched1 (bs : List Int) : Nat → List Int
  | 0 => zeros64
  | k + 1 => (sched1 bs k).set (k / 4) (Go.bits .or .u32 (((sched1 bs k).getD (k / 4) 0) * 256 % 4294967296) (rd bs (k : Int) % 4294967296))
def schedule (bs : List Int) : List Int := sched2 (sched1 bs 64) 48
theorem sched1_length (bs : List Int) (k : Nat) : (sched1 bs k).length = 64 := by
  induction k with
  | zero => simp [sched1, zeros64]
  | succ k ih => simp [sched1, ih]
theorem sched2_length (xs : List Int) (k : Nat) (h : xs.length = 64) : (sched2 xs k).length = 64 := by
  induction k with
  | zero => exact h
  | succ k ih => simp [sched2, ih]
theorem cell_set_ne {w : World} {g i j n : Nat} {u : Value} (h : i ≠ j) (v : Value) (hc : w.cell? ⟨g, i, none⟩ = some u) : ((w.drewN n).setCell ⟨g, j, none⟩ v).cell? ⟨g, i, none⟩ = some u := by
  refine (World.cell?_setCell_other _ _ _ _ (fun e => ?_)).trans ?_
  · simp only [Addr.mk.injEq] at e
    omega
  · exact hc
theorem bits_u64_nonneg (op : BinOp) (x y : Int) : 0 ≤ Go.bits op .u64 x y := by
  unfold Go.bits
  rw [IntKind.wrap_u64]
  omega
theorem rot_some (x n : Int) : ∃ r, bits_RotateLeft32.f x n = some r := by
  unfold bits_RotateLeft32.f
  rw [if_pos (bits_u64_nonneg _ _ _), if_pos (by rw [IntKind.wrap_u64]; omega)]
  exact ⟨_, rfl⟩
theorem gamma_some (x a b c : Int) (hc : 0 ≤ c) : sha_gamma.f x a b c = some ((sha_gamma.f x a b c).getD 0) := by
  unfold sha_gamma.f
  obtain ⟨r1, h1⟩ := rot_some x (wrap64 (32 - a))
  obtain ⟨r2, h2⟩ := rot_some x (wrap64 (32 - b))
  rw [h1, h2]
  simp only [Option.bind_some]
  rw [if_pos hc]
  rfl
theorem sigma_some (x a b c : Int) : sha_sigma.f x a b c = some ((sha_sigma.f x a b c).getD 0) := by
  unfold sha_sigma.f
  obtain ⟨r1, h1⟩ := rot_some x (wrap64 (32 - a))
  obtain ⟨r2, h2⟩ := rot_some x (wrap64 (32 - b))
  obtain ⟨r3, h3⟩ := rot_some x (wrap64 (32 - c))
  rw [h1, h2, h3]
  rfl
set_option maxHeartbeats 1000000 in
set_option maxRecDepth 100000 in
theorem scheduleOf_calls (A0 : Option Addr) (c0 : Nat) (bs : List Int) (w : World) (hr : Kd.C (Kd.int .u8) w A0 bs.length bs) (hc : bs.length ≤ c0) (hl : 64 ≤ bs.length) (hb : bs.length < 9223372036854775807) :
    Calls Tryd.prog 115 #[.slice A0 bs.length c0] w fun e w' => e = .returned (.pointer (some ⟨w.heap.size, 0, none⟩)) ∧ IsWords w' w.heap.size 161 (schedule bs) ∧ Below w.heap.size w w' := by
  have HR := Aside0.mk hr
  have hc64 : 64 ≤ c0 := by omega
  clear hr hc
  go_enter Tryd.func115, Tryd.ntmps115
  go_wp2_with fail
  obtain ⟨g, hg⟩ : ∃ g, g = w.heap.size := ⟨_, rfl⟩
  rw [← hg]
  have HG := Aside0.mk hg
  clear hg
  go_loopw [10] (fun v10 wr => ∃ k : Nat, k ≤ 64 ∧ v10 = .int .i64 k ∧ Aside0 (IsWords wr g 161 (sched1 bs k)) ∧ Aside0 (Below w.heap.size w wr)) (fun v10 _ => 64 - (intOf v10).toNat)
  case atStart => exact ⟨0, by omega, rfl, ⟨by rw [HG.out]; exact heap_alloc_new w _⟩, ⟨below_alloc (Below.refl _ _) _⟩⟩
  case round =>
    obtain ⟨k, hk, rfl, HI, HB⟩ := hrel
    by_cases hlt : k < 64
    · have hd : decide ((k : Int) < 64) = true := by simp; omega
      obtain ⟨ad, rfl, hx0⟩ := Kd.at_int HR.out (k : Int) (by omega) (by omega)
      have hx := (HB.out.cell (World.block_lt_of_cell? w _ hx0)).trans hx0
      clear hx0
      rw [Int.toNat_natCast] at hx
      have hk4 : k / 4 < 64 := by omega
      have hc := HI.out.cell (k / 4) (by rw [sched1_length]; omega)
      have hf := HI.out.frozen (k / 4)
      go_wp2_with fail
      go_roundw
      case rel =>
        refine ⟨k + 1, by omega, by go_num, ⟨?_⟩, ⟨HB.out.setCell (by show w.heap.size ≤ g; rw [HG.out]; omega) _⟩⟩
        have := HI.out.set (k / 4) (Go.bits .or .u32 (((sched1 bs k).getD (k / 4) 0) * 256 % 4294967296) (rd bs (k : Int) % 4294967296))
        rw [List.getD_eq_getElem?_getD] at this
        simpa only [sched1, List.getD_eq_getElem?_getD] using this
      case measure => simp [intOf]; omega
    · have hd : decide ((k : Int) < 64) = false := by simp; omega
      have hk64 : k = 64 := by omega
      rw [hk64] at HI
      clear hk64 hk hlt
      go_wp2_with fail
      obtain ⟨xs0, hxs0⟩ : ∃ xs, xs = sched1 bs 64 := ⟨_, rfl⟩
      have hl0 : xs0.length = 64 := by rw [hxs0]; exact sched1_length _ _
      rw [← hxs0] at HI
      have HL0 := Aside0.mk hl0
      have HX0 := Aside0.mk hxs0
      clear hl0 hxs0 hd
      go_loopw [6] (fun v6 wr => ∃ k : Nat, k ≤ 48 ∧ v6 = .int .i64 (16 + k : Nat) ∧ Aside0 (IsWords wr g 161 (sched2 xs0 k)) ∧ Aside0 (Below w.heap.size w wr)) (fun v6 _ => 64 - (intOf v6).toNat)
      case atStart => exact ⟨0, by omega, rfl, HI, HB⟩
      case round =>
        obtain ⟨k, hk, rfl, HI, HB⟩ := hrel
        by_cases hlt : k < 48
        · obtain ⟨j, hj⟩ : ∃ j, j = 16 + k := ⟨_, rfl⟩
          rw [← hj]
          obtain ⟨xs, hxs⟩ : ∃ xs, xs = sched2 xs0 k := ⟨_, rfl⟩
          rw [← hxs] at HI
          have hxl : xs.length = 64 := by rw [hxs]; exact sched2_length xs0 k HL0.out
          have HXS := Aside0.mk hxs
          have HJ := Aside0.mk hj
          have j0 : 16 ≤ j := by omega
          have j1 : j < 64 := by omega
          obtain ⟨x2, hx2⟩ : ∃ x, x = xs.getD (j - 2) 0 := ⟨_, rfl⟩
          obtain ⟨x7, hx7⟩ : ∃ x, x = xs.getD (j - 7) 0 := ⟨_, rfl⟩
          obtain ⟨x15, hx15⟩ : ∃ x, x = xs.getD (j - 15) 0 := ⟨_, rfl⟩
          obtain ⟨x16, hx16⟩ : ∃ x, x = xs.getD (j - 16) 0 := ⟨_, rfl⟩
          obtain ⟨j2, hj2⟩ : ∃ x, x = j - 2 := ⟨_, rfl⟩
          have c2 := HI.out.cell (j - 2) (by omega)
          rw [← hj2] at c2 hx2
          have HJ2 := Aside0.mk hj2
          clear hj2
          obtain ⟨j7, hj7⟩ : ∃ x, x = j - 7 := ⟨_, rfl⟩
          have c7 := HI.out.cell (j - 7) (by omega)
          rw [← hj7] at c7 hx7
          have HJ7 := Aside0.mk hj7
          clear hj7
          obtain ⟨j15, hj15⟩ : ∃ x, x = j - 15 := ⟨_, rfl⟩
          have c15 := HI.out.cell (j - 15) (by omega)
          rw [← hj15] at c15 hx15
          have HJ15 := Aside0.mk hj15
          clear hj15
          obtain ⟨j16, hj16⟩ : ∃ x, x = j - 16 := ⟨_, rfl⟩
          have c16 := HI.out.cell (j - 16) (by omega)
          rw [← hj16] at c16 hx16
          have HJ16 := Aside0.mk hj16
          clear hj16
          rw [← hx2] at c2
          rw [← hx7] at c7
          rw [← hx15] at c15
          rw [← hx16] at c16
          have hf := HI.out.frozen j
          have hcj := HI.out.cell j (by omega)
          have HX := Aside0.mk (And.intro hx2 (And.intro hx7 (And.intro hx15 hx16)))
          have G1 := Aside0.mk (gamma_some x2 17 19 10 (by omega))
          have G2 := Aside0.mk (gamma_some x15 7 18 3 (by omega))
          obtain ⟨y1, hy1⟩ : ∃ y, y = (sha_gamma.f x2 17 19 10).getD 0 := ⟨_, rfl⟩
          obtain ⟨y2, hy2⟩ : ∃ y, y = (sha_gamma.f x15 7 18 3).getD 0 := ⟨_, rfl⟩
          rw [← hy1] at G1
          rw [← hy2] at G2
          have HY := Aside0.mk (And.intro hy1 hy2)
          have HXL := Aside0.mk hxl
          have HK := Aside0.mk hlt
          clear hj hxs hx2 hx7 hx15 hx16 hy1 hy2 hxl hlt
          have hd : decide ((j : Int) < 64) = true := by simp; omega
          have pj : 0 ≤ (j : Int) := by omega
          have qj : (j : Int) < 64 := by omega
          go_wp2_with fail
          have w2 : IntKind.i64.wrap (j2 : Int) = (j2 : Int) := by have := HJ2.out; exact IntWalk.i64_in _ ⟨by omega, by omega⟩
          have q2 : (j2 : Int) < 64 := by have := HJ2.out; omega
          have p2 : 0 ≤ (j2 : Int) := by omega
          have e2 : (j : Int) - 2 = (j2 : Int) := by have := HJ2.out; omega
          have w7 : IntKind.i64.wrap (j7 : Int) = (j7 : Int) := by have := HJ7.out; exact IntWalk.i64_in _ ⟨by omega, by omega⟩
          have q7 : (j7 : Int) < 64 := by have := HJ7.out; omega
          have p7 : 0 ≤ (j7 : Int) := by omega
          have e7 : (j : Int) - 7 = (j7 : Int) := by have := HJ7.out; omega
          have w15 : IntKind.i64.wrap (j15 : Int) = (j15 : Int) := by have := HJ15.out; exact IntWalk.i64_in _ ⟨by omega, by omega⟩
          have q15 : (j15 : Int) < 64 := by have := HJ15.out; omega
          have p15 : 0 ≤ (j15 : Int) := by omega
          have e15 : (j : Int) - 15 = (j15 : Int) := by have := HJ15.out; omega
          have w16 : IntKind.i64.wrap (j16 : Int) = (j16 : Int) := by have := HJ16.out; exact IntWalk.i64_in _ ⟨by omega, by omega⟩
          have q16 : (j16 : Int) < 64 := by have := HJ16.out; omega
          have p16 : 0 ≤ (j16 : Int) := by omega
          have e16 : (j : Int) - 16 = (j16 : Int) := by have := HJ16.out; omega
          go_region_held3 (fun w' => w'.cell? ⟨g, j2, none⟩ = some (.int .u32 x2) ∧ w'.cell? ⟨g, j7, none⟩ = some (.int .u32 x7) ∧ w'.cell? ⟨g, j15, none⟩ = some (.int .u32 x15) ∧ w'.cell? ⟨g, j16, none⟩ = some (.int .u32 x16)) (first | go_keep | exact ⟨cell_set_ne (by have := HJ2.out; omega) _ c2, cell_set_ne (by have := HJ7.out; omega) _ c7, cell_set_ne (by have := HJ15.out; omega) _ c15, cell_set_ne (by have := HJ16.out; omega) _ c16⟩) (first | (go_at_call 117; ((with_reducible refine (sha_gamma.calls x2 17 19 10 y1 _ G1.out).mono ?_); rintro e w' ⟨rfl, ⟨m1, rfl⟩⟩)) | (go_at_call 117; ((with_reducible refine (sha_gamma.calls x15 7 18 3 y2 _ G2.out).mono ?_); rintro e w' ⟨rfl, ⟨m2, rfl⟩⟩)))
          go_wp2_with fail
          go_roundw
          case rel =>
            have hX := HX.out
            have hY := HY.out
            have hv : (((y1 + x7) % 4294967296 + y2) % 4294967296 + x16) % 4294967296 = sched2At (sched2 xs0 k) (k + 16) := by
              unfold sched2At
              rw [← HXS.out, show k + 16 = j from by rw [HJ.out]; omega, ← HJ2.out, ← HJ7.out, ← HJ15.out, ← HJ16.out, ← hX.1, ← hX.2.1, ← hX.2.2.1, ← hX.2.2.2, ← hY.1, ← hY.2]
            refine ⟨k + 1, by have := HK.out; omega, by rw [HJ.out]; go_num, ⟨?_⟩, ⟨(pw_below_drewN HB.out _).setCell (by show w.heap.size ≤ g; rw [HG.out]; omega) _⟩⟩
            rw [hv]
            have h1 := (HI.out.drewN (1 + m1 + m2)).set j (sched2At (sched2 xs0 k) (k + 16))
            have h2 : sched2 xs0 (k + 1) = xs.set j (sched2At (sched2 xs0 k) (k + 16)) := by
              simp only [sched2]
              rw [← HXS.out, show k + 16 = j from by rw [HJ.out]; omega]
            rw [h2]
            exact h1
          case measure => simp [intOf]; have := HJ.out; omega
        · have hd : decide (((16 + k : Nat) : Int) < 64) = false := by simp; omega
          obtain rfl : k = 48 := by omega
          go_wp2_with fail
          go_ret
          rw [← HG.out]
          refine ⟨rfl, ?_, by rw [HG.out]; exact HB.out⟩
          unfold schedule
          rw [← HX0.out]
          exact HI.out
end Go.Proofs.YtdeneoknjeegbaaDoor.P
end
