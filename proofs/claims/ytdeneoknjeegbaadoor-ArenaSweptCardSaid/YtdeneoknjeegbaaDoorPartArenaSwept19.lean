/- Lemmas of this claim, part 19. -/
import Derived.Test.YtdeneoknjeegbaaDoorPartArenaSwept2
import Derived.Test.YtdeneoknjeegbaaDoorPartArenaSwept18
import Derived.WalkSpells
import Derived.ChangeArms
import Derived.SizedLaws
section
namespace Go.Proofs.YtdeneoknjeegbaaDoor.P
open Go.RowKit Go.Proofs.YtdeneoknjeegbaaDoorW.PrintWords Go.Proofs.YtdeneoknjeegbaaDoorW.PrintLast Go.Proofs.YtdeneoknjeegbaaDoorW.PrintMore
attribute [local go_sem] max2_int min2_int max_two min_two max_three min_three max_four min_four
set_option linter.unusedVariables false
set_option linter.unusedSimpArgs false
def slices_Contains_int_int.f (k : Nat) (l0 : List Int) (a1 : Int) : Option (Bool) := (slices_Index_int_int.f k l0 a1).bind fun t345 => (some (decide (t345 ≥ 0)))
set_option maxHeartbeats 8000000 in
set_option maxRecDepth 100000 in
theorem slices_Contains_int_int.calls (k : Nat) (A0 : Option Addr) (c0 : Nat) (l0 : List Int) (a1 : Int) (r : Bool) (w : World) (hr0 : Kd.C (Kd.int .i64) w A0 l0.length l0) (hc0 : l0.length ≤ c0) (h : slices_Contains_int_int.f k l0 a1 = some r) :
    Calls Tryd.prog 14 #[.slice A0 l0.length c0, .int .i64 a1] w fun e w' => e = .returned (.bool r) ∧ Drawn0 w w' := by
  have HR0 := Aside0.mk hr0
  have HC0 := Aside0.mk hc0
  clear hr0 hc0
  have H : ((slices_Index_int_int.f k l0 a1).bind fun t345 => (some (decide (t345 ≥ 0)))) = some r := h
  clear h
  replace H := Option.bind_eq_some_iff.mp H
  obtain ⟨t345, A30, H⟩ := H
  replace H : (some (decide (t345 ≥ 0))) = some r := H
  have A3 := Aside0.mk A30
  clear A30
  obtain rfl := Option.some.inj H
  go_enter Tryd.func14, Tryd.ntmps14
  go_wp2_with (first | ((with_reducible refine gate_callee (f := 46) rfl ?_); refine goesL_ (some 7) rfl rfl Tryd.func46 (by kernel_rfl) rfl #[.slice A0 l0.length c0, .int .i64 a1] rfl (by (try simp only [List.map_toArray, List.map_cons, List.map_nil]); first | done | rfl | (simp only [List.length_drop, List.length_take]; rfl)) ?_; (with_reducible refine (slices_Index_int_int.calls k _ _ l0 a1 t345 _ ?side1 ?side2 A3.out).mono ?_); (case side1 => repeat (first | exact HR0.out | (with_reducible refine Kd.C_alloc ?_ _) | (with_reducible refine Kd.C_drewN ?_ _) | (with_reducible refine Kd.C_drew ?_))); (case side2 => exact HC0.out); rintro e w' ⟨rfl, ⟨nd, rfl⟩⟩; refine ⟨_, rfl, ?_⟩))
  go_ret
  exact ⟨by first | rfl | (simp; done) | (simp [*]; done), by repeat (first | exact Drawn0.refl _ | apply Drawn0.step)⟩
end Go.Proofs.YtdeneoknjeegbaaDoor.P
end
section
set_option linter.unusedVariables false
set_option linter.unusedSimpArgs false
namespace Go.Proofs.YtdeneoknjeegbaaDoor.P
open Go.RowKit Go.Proofs.YtdeneoknjeegbaaDoor.Pure Go.Proofs.YtdeneoknjeegbaaDoorW.PrintWords Go.Proofs.YtdeneoknjeegbaaDoorW.PrintLast Go.Proofs.YtdeneoknjeegbaaDoorW.PrintMore
theorem index_l0 (l : List Int) (a : Int) (hl : l.length ≤ 9223372036854775807) : ∀ (d m k : Nat), m + d = l.length → d + 1 ≤ k → (a ∉ l.take m) → ∃ r, slices_Index_int_int.l0 k l a (l.length : Int) (m : Int) = some r ∧ (decide (r ≥ 0) = decide (a ∈ l))
  | 0, m, k, hm, hk, hn => by
    obtain ⟨k, rfl⟩ : ∃ j, k = j + 1 := ⟨k - 1, by omega⟩
    refine ⟨-1, ?_, ?_⟩
    · simp only [slices_Index_int_int.l0]
      rw [if_neg (by omega)]
    · rw [List.take_of_length_le (by omega)] at hn
      rw [decide_eq_false hn]
      rfl
  | d + 1, m, k, hm, hk, hn => by
    obtain ⟨k, rfl⟩ : ∃ j, k = j + 1 := ⟨k - 1, by omega⟩
    have hml : m < l.length := by omega
    simp only [slices_Index_int_int.l0]
    rw [if_pos (by omega), if_pos (by omega), if_pos (by omega)]
    have hrd : rd l (m : Int) = l[m] := by unfold rd; rw [Int.toNat_natCast, List.getD_eq_getElem?_getD, List.getElem?_eq_getElem hml]; rfl
    rw [hrd]
    by_cases he : a = l[m]
    · rw [if_pos he]
      exact ⟨m, rfl, by rw [decide_eq_true (by omega), decide_eq_true (by rw [he]; exact List.getElem_mem hml)]⟩
    · rw [if_neg he, wrap64_id _ (by omega), show ((m : Int) + 1) = ((m + 1 : Nat) : Int) by omega]
      refine index_l0 l a hl d (m + 1) k (by omega) (by omega) (fun hin => ?_)
      rw [List.take_succ_eq_append_getElem hml] at hin
      rcases List.mem_append.1 hin with h1 | h1
      · exact hn h1
      · exact he (by simpa using h1)
theorem contains_f (l : List Int) (a : Int) (hl : l.length ≤ 9223372036854775807) (k : Nat) (hk : l.length + 1 ≤ k) : slices_Contains_int_int.f k l a = some (decide (a ∈ l)) := by
  obtain ⟨r, h1, h2⟩ := index_l0 l a hl l.length 0 k (by omega) hk (by simp)
  unfold slices_Contains_int_int.f slices_Index_int_int.f
  rw [show ((0 : Nat) : Int) = 0 from rfl] at h1
  rw [h1]
  simp only [Option.bind_some]
  rw [h2]
theorem cut1_run {P : Program} (t e : TypeId) {i : TypeInfo} (ht : P.underlying t = some (.slice e)) (hi : P.info? e = some i) (hsz : i.size = 1) (A : Option Addr) (n c : Nat) (hm : 1 ≤ n) (W : World) :
    (Instr.slice t (.slice A n c) (some (.int .i64 1)) none none).run P W = .ok (.slice (if c = 1 then A else A.map (·.add 1)) (n - 1) (c - 1)) W := by
  have hel : P.elem t = e := by simp [Program.elem, ht]
  have hu : P.underlying t = some (.slice (P.elem t)) := by rw [hel]; exact ht
  rw [run_slice_l W t A n c hu .i64 1 (by omega) (by omega), hel]
  simp [sizeOf, typeInfo, hi, hsz, sliced, Result.andThen]
def lenV : Value → Nat | .slice _ n _ => n | _ => 0
section
variable {P : Program} {ops : Array Oper} {rest : List Oper} {o : Oper} {a : Act} {Q' : Exit → Act → World → Prop}
theorem Q_append2 {w0 W : World} (base : Nat) (hgd : o.guard = none) (s x : Operand) (t e : TypeId) (z : Value) (bytes : Nat)
    (ho : o.op = .call { callee := .builtin .append, args := #[s, x], argTypes := #[t, t] })
    (ht : P.underlying t = some (.slice e)) (hinfo : (P.info? e).map (fun i => (i.zero, i.size, i.bytes)) = some (some z, 1, bytes)) (hz : z.cells.size = 1) (hb0 : 0 < bytes)
    (v : Value) (xs : List Int) (p q : Int) (ok : Nat → Prop) (hs : a.eval s = v) (hx : a.eval x = .slice (some ⟨W.heap.size, 0, none⟩) 2 2) (hfresh : ∀ k, W.heap.size ≤ k → ok k)
    (HO : (Kd.int .i64).Q e W base ok v xs) (HB : Below base w0 W) (hbase : base ≤ W.heap.size) (hl : (xs.length + 2) * bytes ≤ 140737488355328)
    (h : ∀ v1 w1, (Kd.int .i64).Q e w1 base ok v1 (xs ++ [p, q]) → Below base w0 w1 → W.grownBy w1 v.ownBlock → (v1.ownBlock = v.ownBlock ∨ ∃ b, v1.ownBlock = some b ∧ W.heap.size ≤ b) → wpList P ops Q' rest (a.put o.dst v1) w1) :
    wpList P ops Q' (o :: rest) a (W.alloc (.cells #[.int .i64 p, .int .i64 q] e)) := by
  obtain ⟨h0, inner, hown, hr⟩ := HO
  obtain ⟨i0, hi, hzz⟩ := Option.map_eq_some_iff.1 hinfo
  simp only [Prod.mk.injEq] at hzz
  obtain ⟨hz0, hz1, hz2⟩ := hzz
  have hlen : xs.length + 2 ≤ 140737488355328 := Nat.le_trans (Nat.le_mul_of_pos_right _ hb0) hl
  have hq : QRow (W.alloc (.cells #[.int .i64 p, .int .i64 q] e)) base e 1 v xs.length inner := q_move hown (fun k hk => Below.heap_alloc W _ k (q_lt hown k hk))
  obtain ⟨v1, w1, hrun, hq1, hg1, hat⟩ := q_append (P := P) (W.alloc (.cells #[.int .i64 p, .int .i64 q] e)) base t o.type e i0 z 1 bytes ht hi hz0 hz1 hz2 hz (by decide) v xs.length inner hq ⟨W.heap.size, 0, none⟩ 2 2 [.int .i64 p, .int .i64 q] rfl
    (by simpa using World.news_of_block (cs := #[.int .i64 p, .int .i64 q]) (t := e) (fr := (0, 0)) (heap_alloc_new W (.cells #[.int .i64 p, .int .i64 q] e))) (by intro u hu; simp only [List.mem_cons, List.not_mem_nil, or_false] at hu; rcases hu with rfl | rfl <;> rfl) (by omega) (by simp only [maxLen]; omega) hl (by simp; omega)
  have hg : W.grownBy w1 v.ownBlock := World.grownBy.trans (World.grownBy_alloc W _ _) hg1
  have hat' : v1.ownBlock = v.ownBlock ∨ ∃ b, v1.ownBlock = some b ∧ W.heap.size ≤ b := by
    rcases hat with hat | ⟨b, hb, hle⟩
    · exact .inl hat
    · exact .inr ⟨b, hb, by rw [World.size_alloc] at hle; omega⟩
  have hQ : (Kd.int .i64).Q e w1 base ok v1 (xs ++ [p, q]) := by
    refine ⟨fun k hk => ?_, inner ++ [.int .i64 p, .int .i64 q], by rw [List.length_append]; exact hq1, ?_⟩
    · rcases hat' with hh | ⟨b, hb, hle⟩
      · exact h0 k (hh ▸ hk)
      · rw [hb] at hk
        injection hk with hk
        exact hfresh k (by omega)
    · have h1 : Reps ((Kd.int .i64).M w1 base (fun k => ok k ∧ some k ≠ v1.ownBlock)) 1 xs inner := hr.imp_ (fun x c hx => hx)
      have h2 := (h1.snoc (p := p) (c := [.int .i64 p]) rfl rfl).snoc (p := q) (c := [.int .i64 q]) rfl rfl
      have h3 : xs ++ [p] ++ [q] = xs ++ [p, q] := by simp
      have h4 : inner ++ [Value.int .i64 p] ++ [Value.int .i64 q] = inner ++ [.int .i64 p, .int .i64 q] := by simp
      rw [h3, h4] at h2
      exact h2
  refine wpList_plain hgd fun K hK => ?_
  unfold Oper.wp execOp
  simp only [ho, resolve, invoke, builtin, Sem.run_bind, Sem.run_pure, Result.andThen_ok, List.map_toArray, List.map_cons, List.map_nil, hs, hx, hrun]
  exact hK _ _ (h v1 w1 hQ (HB.grown hg hbase (fun k hk => (q_typed hown k hk).1)) hg hat')
end
theorem Q_first {e : Nat} {w : World} {base : Nat} {ok : Nat → Prop} {A : Option Addr} {n c : Nat} {t : Int} {r : List Int} (h : (Kd.int .i64).Q e w base ok (.slice A n c) (t :: r)) : ∃ ad : Addr, A = some ad ∧ w.cell? ad = some (.int .i64 t) := by
  have hrd := Kd.Q_reads' h
  obtain ⟨ad, cc, e1, hl, hK, hc⟩ := Kd.C_get hrd.2.2 (0 : Int) 0 (by omega) (by simp)
  refine ⟨ad, e1, ?_⟩
  have h1 : cc = [.int .i64 t] := hK
  have := hc 0 (.int .i64 t) (by rw [h1]; rfl)
  simpa [Addr.add] using this
end Go.Proofs.YtdeneoknjeegbaaDoor.P
end
section
set_option linter.unusedVariables false
set_option linter.unusedSimpArgs false
namespace Go.Proofs.YtdeneoknjeegbaaDoor.P
open Go.RowKit Go.Proofs.YtdeneoknjeegbaaDoor.Pure Go.Proofs.YtdeneoknjeegbaaDoorW.PrintWords Go.Proofs.YtdeneoknjeegbaaDoorW.PrintLast Go.Proofs.YtdeneoknjeegbaaDoorW.PrintMore
theorem nb450 : ¬ newBad 4 50 := by unfold newBad; omega
theorem infoInt : (Tryd.prog.info? 3).map (fun i => (i.zero, i.size, i.bytes)) = some (some (.int .i64 0), 1, 8) := by kernel_rfl
theorem bfs_meas1 (A0 A1 A3 : Option Addr) (n1 c1 n2 c2 c3 : Nat) (h : 0 < n2) : 2 * (50 - lenV (.slice A1 n1 c1)) + lenV (.slice A3 (n2 - 1) c3) < 2 * (50 - lenV (.slice A1 n1 c1)) + lenV (.slice A0 n2 c2) := by
  show 2 * (50 - n1) + (n2 - 1) < 2 * (50 - n1) + n2
  omega
theorem bfs_meas2 (A0 A1 A4 A6 : Option Addr) (n1 c1 n2 c2 m1 c4 m2 c5 : Nat) (h1 : m1 = n1 + 1) (h2 : n1 + 1 ≤ 50) (h : m2 - 1 < n2 + 2) : 2 * (50 - lenV (.slice A4 m1 c4)) + lenV (.slice A6 (m2 - 1) c5) < 2 * (50 - lenV (.slice A1 n1 c1)) + lenV (.slice A0 n2 c2) := by
  show 2 * (50 - m1) + (m2 - 1) < 2 * (50 - n1) + n2
  omega
theorem R_int_at {w : World} {base : Nat} {ok : Nat → Prop} {A : Option Addr} {n c : Nat} {l : List Int} (h : Kd.R (Kd.int .i64) 3 w base ok (.slice A n c) l) (i : Nat) (hi : i < l.length) : ∃ g, A = some ⟨g, 0, none⟩ ∧ w.cell? ⟨g, i, none⟩ = some (.int .i64 l[i]) := by
  have hrd := Kd.R_reads' h
  obtain ⟨ad, cc, e1, hl, hK, hc⟩ := Kd.C_get hrd.2.2 (0 : Int) (i : Int) (by omega) (by omega)
  subst e1
  obtain ⟨g, rfl⟩ := Kd.R_head h
  refine ⟨g, rfl, ?_⟩
  have h1 : cc = [.int .i64 l[i]] := by
    have h2 : cc = [.int .i64 (l.getD (i : Int).toNat 0)] := hK
    rw [h2, Int.toNat_natCast, List.getD_eq_getElem?_getD, List.getElem?_eq_getElem hi]
    rfl
  have := hc 0 (.int .i64 l[i]) (by rw [h1]; rfl)
  rw [Int.toNat_natCast, add_plain] at this
  have hz : i * (Kd.int .i64).sz + 0 = i := by show i * 1 + 0 = i; omega
  rw [hz] at this
  exact this
set_option maxHeartbeats 8000000 in
set_option maxRecDepth 100000 in
theorem arenaSwept_true (Al : Option Addr) (cl : Nat) (l : List DoS) (root : Int) (w : World) (hl : Kd.C kDo w Al l.length l) (hcl : l.length ≤ cl) (ho : ∀ d ∈ l, DoOk d) (hGS : GlobS w) :
    Calls Tryd.prog 4 #[.slice Al l.length cl, .int .i64 root] w fun e w' => e = .returned (.bool true) ∧ Below w.heap.size w w' := by
  have HL := Aside0.mk hl
  have HCL := Aside0.mk hcl
  have HO := Aside0.mk ho
  have HGS := Aside0.mk hGS
  have HLM := Aside0.mk (show l.length ≤ 9223372036854775807 from hl.2.1)
  clear hl hcl ho hGS
  go_enter Tryd.func4, Tryd.ntmps4
  go_wp2_with fail
  refine (new_calls 4 50 w (by decide) (by decide) (by decide) (by decide)).mono ?_
  rintro e w1 ⟨rfl, hA, hb1⟩
  have HA := Aside0.mk hA
  have HB1 := Aside0.mk hb1
  clear hA hb1
  go_wp2_with fail
  refine (rnew_calls 4 50 w1 nb450).mono ?_
  rintro e w2 ⟨rfl, hQ, hb2⟩
  have HP := Aside0.mk (Pr.start nb450 HA.out HB1.out hQ hb2)
  have HW2 := Aside0.mk (show Below w.heap.size w w2 from HB1.out.trans (hb2.mono HB1.out.size))
  clear hQ hb2 HA HB1
  obtain ⟨p, hp⟩ : ∃ p, p = w.heap.size := ⟨_, rfl⟩
  obtain ⟨q, hq⟩ : ∃ q, q = w1.heap.size := ⟨_, rfl⟩
  obtain ⟨base, hbase⟩ : ∃ b, b = w.heap.size := ⟨_, rfl⟩
  replace HP := Aside0.mk (show Pr w2 base p q 4 50 (.slice none 0 0) (.slice none 0 0) (.slice none 0 0) (fun k => k < base) [] [] from by rw [hp, hq, hbase]; exact HP.out)
  rw [← hp, ← hq]
  have HBE := Aside0.mk hbase
  clear hp hq hbase
  go_wp2_with fail
  go_loopw [39] (fun v39 wr => ∃ (k : Nat) (vc vf vl : Value) (X : Nat → Prop) (cs : Cs), k ≤ l.length ∧ v39 = .int .i64 (k : Int) ∧ Aside0 (Step w2 wr base p q 4 50 vc vf vl (fun k => k < base) X cs cs) ∧ Aside0 (CsOk cs)) (fun v39 _ => l.length - (intOf v39).toNat)
  case atStart => exact ⟨0, _, _, _, _, [], Nat.zero_le _, rfl, ⟨⟨HP.out, fun _ h => h, Below.refl _ _, fun _ _ => rfl⟩⟩, ⟨CsOk.nil⟩⟩
  case round =>
    obtain ⟨k, vc, vf, vl, X, cs, hk, rfl, HS, HCS⟩ := hrel
    have HBW := Aside0.mk (show Below w.heap.size w wr from HW2.out.trans (by have := HS.out.low; rwa [HBE.out] at this))
    by_cases hlt : k < l.length
    · have HK := Aside0.mk hlt
      have hd : decide ((k : Int) < (l.length : Int)) = true := decide_eq_true (by omega)
      have hd2 : decide (k < l.length) = true := decide_eq_true hlt
      have hd3 : (k : Int) < (l.length : Int) := by omega
      obtain ⟨ad, A4, c4, A5, c5, A6, c6, hA, a0, a1, a2, a3, a4, a5, a6, l4, g4, l5, g5, l6, g6⟩ := at_Do HL.out (k : Int) (by omega) (by omega)
      have hDO := HO.out _ (rdDo_mem (xs := l) (i := (k : Int)) (by simpa using hlt))
      obtain ⟨dd, hdd⟩ : ∃ dd, dd = rdDo l (k : Int) := ⟨_, rfl⟩
      rw [← hdd] at a0 a1 a2 a3 a4 a5 a6 l4 g4 l5 g5 l6 g6 hDO
      clear hdd
      have HDO := Aside0.mk hDO
      have HV4 := Aside0.mk (HS.out.bx (show BX w2 (fun k => k < base) (.slice A4 dd.x.length c4) dd.x from by rw [HBE.out]; exact Kd.V_below (V_of_C 5 g4 l4) HW2.out))
      have HV5 := Aside0.mk (HS.out.bx (show BX w2 (fun k => k < base) (.slice A5 dd.y.length c5) dd.y from by rw [HBE.out]; exact Kd.V_below (V_of_C 5 g5 l5) HW2.out))
      have HV6 := Aside0.mk (HS.out.ints (show Kd.V (Kd.int .i64) 3 w2 0 (fun k => k < base) (.slice A6 dd.r.length c6) dd.r from by rw [HBE.out]; exact Kd.V_below (V_of_C 3 g6 l6) HW2.out))
      rw [hA]
      replace a0 := (HBW.out.cell (World.block_lt_of_cell? w _ a0)).trans a0
      replace a1 := (HBW.out.cell (World.block_lt_of_cell? w _ a1)).trans a1
      replace a2 := (HBW.out.cell (World.block_lt_of_cell? w _ a2)).trans a2
      replace a3 := (HBW.out.cell (World.block_lt_of_cell? w _ a3)).trans a3
      replace a4 := (HBW.out.cell (World.block_lt_of_cell? w _ a4)).trans a4
      replace a5 := (HBW.out.cell (World.block_lt_of_cell? w _ a5)).trans a5
      replace a6 := (HBW.out.cell (World.block_lt_of_cell? w _ a6)).trans a6
      simp only [Int.toNat_natCast] at a0 a1 a2 a3 a4 a5 a6
      clear l4 g4 l5 g5 l6 g6 hA hDO
      have s0 := blk_cell (show (wr.alloc (.cells #[.int .i64 dd.a, .int .i64 dd.b, .int .i64 dd.c, .int .i64 dd.d, .slice A4 dd.x.length c4, .slice A5 dd.y.length c5, .slice A6 dd.r.length c6] 34)).heap[wr.heap.size]? = some (.cells [.int .i64 dd.a, .int .i64 dd.b, .int .i64 dd.c, .int .i64 dd.d, .slice A4 dd.x.length c4, .slice A5 dd.y.length c5, .slice A6 dd.r.length c6].toArray 34 (0, 0)) from heap_alloc_new wr _) 0
      have s1 := blk_cell (show (wr.alloc (.cells #[.int .i64 dd.a, .int .i64 dd.b, .int .i64 dd.c, .int .i64 dd.d, .slice A4 dd.x.length c4, .slice A5 dd.y.length c5, .slice A6 dd.r.length c6] 34)).heap[wr.heap.size]? = some (.cells [.int .i64 dd.a, .int .i64 dd.b, .int .i64 dd.c, .int .i64 dd.d, .slice A4 dd.x.length c4, .slice A5 dd.y.length c5, .slice A6 dd.r.length c6].toArray 34 (0, 0)) from heap_alloc_new wr _) 1
      have s2 := blk_cell (show (wr.alloc (.cells #[.int .i64 dd.a, .int .i64 dd.b, .int .i64 dd.c, .int .i64 dd.d, .slice A4 dd.x.length c4, .slice A5 dd.y.length c5, .slice A6 dd.r.length c6] 34)).heap[wr.heap.size]? = some (.cells [.int .i64 dd.a, .int .i64 dd.b, .int .i64 dd.c, .int .i64 dd.d, .slice A4 dd.x.length c4, .slice A5 dd.y.length c5, .slice A6 dd.r.length c6].toArray 34 (0, 0)) from heap_alloc_new wr _) 2
      have s3 := blk_cell (show (wr.alloc (.cells #[.int .i64 dd.a, .int .i64 dd.b, .int .i64 dd.c, .int .i64 dd.d, .slice A4 dd.x.length c4, .slice A5 dd.y.length c5, .slice A6 dd.r.length c6] 34)).heap[wr.heap.size]? = some (.cells [.int .i64 dd.a, .int .i64 dd.b, .int .i64 dd.c, .int .i64 dd.d, .slice A4 dd.x.length c4, .slice A5 dd.y.length c5, .slice A6 dd.r.length c6].toArray 34 (0, 0)) from heap_alloc_new wr _) 3
      have s4 := blk_cell (show (wr.alloc (.cells #[.int .i64 dd.a, .int .i64 dd.b, .int .i64 dd.c, .int .i64 dd.d, .slice A4 dd.x.length c4, .slice A5 dd.y.length c5, .slice A6 dd.r.length c6] 34)).heap[wr.heap.size]? = some (.cells [.int .i64 dd.a, .int .i64 dd.b, .int .i64 dd.c, .int .i64 dd.d, .slice A4 dd.x.length c4, .slice A5 dd.y.length c5, .slice A6 dd.r.length c6].toArray 34 (0, 0)) from heap_alloc_new wr _) 4
      have s5 := blk_cell (show (wr.alloc (.cells #[.int .i64 dd.a, .int .i64 dd.b, .int .i64 dd.c, .int .i64 dd.d, .slice A4 dd.x.length c4, .slice A5 dd.y.length c5, .slice A6 dd.r.length c6] 34)).heap[wr.heap.size]? = some (.cells [.int .i64 dd.a, .int .i64 dd.b, .int .i64 dd.c, .int .i64 dd.d, .slice A4 dd.x.length c4, .slice A5 dd.y.length c5, .slice A6 dd.r.length c6].toArray 34 (0, 0)) from heap_alloc_new wr _) 5
      have s6 := blk_cell (show (wr.alloc (.cells #[.int .i64 dd.a, .int .i64 dd.b, .int .i64 dd.c, .int .i64 dd.d, .slice A4 dd.x.length c4, .slice A5 dd.y.length c5, .slice A6 dd.r.length c6] 34)).heap[wr.heap.size]? = some (.cells [.int .i64 dd.a, .int .i64 dd.b, .int .i64 dd.c, .int .i64 dd.d, .slice A4 dd.x.length c4, .slice A5 dd.y.length c5, .slice A6 dd.r.length c6].toArray 34 (0, 0)) from heap_alloc_new wr _) 6
      simp at s0 s1 s2 s3 s4 s5 s6
      have hcm : decide ((k : Int) < (l.length : Int)) = true := hd
      have HKL := Aside0.mk hk
      clear hk
      obtain ⟨z, hz⟩ : ∃ z, wrap64 ((IntKind.u64.wrap dd.a).tmod 4) = z := ⟨_, rfl⟩
      by_cases h40 : k < 40
      · have e40 : decide ((k : Int) < 40) = true := decide_eq_true (by omega)
        have f40 : decide (k < 40) = true := decide_eq_true h40
        by_cases h3 : z = 3
        · have e3 : (z != 3) = false := by rw [h3]; rfl
          clear h3 h40
          go_wp2_with fail
          have hk := HKL.out
          have hlm := HLM.out
          have hw1 : wrap64 ((k : Int) + 1) = ((k + 1 : Nat) : Int) := by rw [wrap64_id _ (by omega)]; omega
          have hmeas := step_meas (k := k) (n := l.length) HK.out hw1
          go_roundw
          case measure => exact hmeas
          case rel => exact ⟨k + 1, _, _, _, _, _, by omega, by rw [hw1], ⟨HS.out.below (below_alloc (Below.refl _ _) _)⟩, HCS⟩
        · have e3 : (z != 3) = true := by simpa using h3
          have HZ := Aside0.mk (show wrap64 ((IntKind.u64.wrap dd.a).tmod 4) ≠ 3 from by rw [hz]; exact h3)
          clear h3 h40
          go_wp2_with fail
          clear s0 s1 s2 s3 s4 s5 s6 a0 a1 a2 a3 a4 a5 a6
          obtain ⟨w5, hw5⟩ : ∃ w5, w5 = (wr.alloc (.cells #[.int .i64 dd.a, .int .i64 dd.b, .int .i64 dd.c, .int .i64 dd.d, .slice A4 dd.x.length c4, .slice A5 dd.y.length c5, .slice A6 dd.r.length c6] 34)) := ⟨_, rfl⟩
          rw [← hw5]
          have HB5 := Aside0.mk (show Below wr.heap.size wr w5 from by rw [hw5]; exact below_alloc (Below.refl _ _) _)
          have HS5 := Aside0.mk (HS.out.below HB5.out)
          clear hw5
          refine (does_callsN (w0 := w) HS5.out.pr HCS.out dd.a dd.b dd.c dd.d A4 A5 A6 c4 c5 c6 dd.x dd.y dd.r (Kd.V_below HV4.out HB5.out) (Kd.V_below HV5.out HB5.out) HDO.out.1 HDO.out.2.1 HDO.out.2.2 HBE.out HGS.out (by rw [HBE.out]; exact HBW.out.trans (HB5.out.mono HBW.out.size)) HZ.out).mono ?_
          rintro e w6 ⟨rfl, vc6, vf6, vl6, X6, cs6, hs6, hcs6⟩
          have HS6 := Aside0.mk (HS5.out.trans hs6)
          have HCS6 := Aside0.mk hcs6
          clear hs6 hcs6
          go_wp2_with fail
          have hk := HKL.out
          have hlm := HLM.out
          have hw1 : wrap64 ((k : Int) + 1) = ((k + 1 : Nat) : Int) := by rw [wrap64_id _ (by omega)]; omega
          have hmeas := step_meas (k := k) (n := l.length) HK.out hw1
          go_roundw
          case measure => exact hmeas
          case rel => exact ⟨k + 1, _, _, _, _, _, by omega, by rw [hw1], HS6, HCS6⟩
      · have e40 : decide ((k : Int) < 40) = false := decide_eq_false (by omega)
        have f40 : decide (k < 40) = false := decide_eq_false h40
        clear h40
        go_wp2_with fail
        have hk := HKL.out
        have hlm := HLM.out
        have hw1 : wrap64 ((k : Int) + 1) = ((k + 1 : Nat) : Int) := by rw [wrap64_id _ (by omega)]; omega
        have hmeas := step_meas (k := k) (n := l.length) HK.out hw1
        go_roundw
        case measure => exact hmeas
        case rel => exact ⟨k + 1, _, _, _, _, _, by omega, by rw [hw1], ⟨HS.out.below (below_alloc (Below.refl _ _) _)⟩, HCS⟩
    · obtain rfl : k = l.length := by omega
      have hd : decide ((l.length : Int) < (l.length : Int)) = false := decide_eq_false (by omega)
      have hd2 : decide (l.length < l.length) = false := decide_eq_false (by omega)
      clear hk hlt
      go_wp2_with fail
      obtain ⟨wp, hwp⟩ : ∃ x, x = wr := ⟨_, rfl⟩
      subst hwp
      have HC50 := Aside0.mk (show cs.length ≤ 50 from by have := HS.out.pr.a.hl; omega)
      obtain ⟨w3, hw3⟩ : ∃ w3, w3 = wp.alloc (.cells #[.int .i64 root] 3) := ⟨_, rfl⟩
      rw [← hw3]
      have HB3 := Aside0.mk (show Below wp.heap.size wp w3 from by rw [hw3]; exact below_alloc (Below.refl _ _) _)
      have HT3 := Aside0.mk (show Kd.Q (Kd.int .i64) 3 w3 wp.heap.size (fun k => some k ≠ (Value.slice none 0 0).ownBlock) (.slice (some ⟨wp.heap.size, 0, none⟩) 1 1) [root] from by
        rw [hw3]
        exact Kd.Q_mono (Kd.Q_of_R (lit1_R wp.heap.size (Nat.le_refl _) root)) (fun k _ => by simp [Value.ownBlock]))
      clear hw3
      obtain ⟨b3, hb3⟩ : ∃ b, b = wp.heap.size := ⟨_, rfl⟩
      replace HT3 := Aside0.mk (show Kd.Q (Kd.int .i64) 3 w3 b3 (fun k => some k ≠ (Value.slice none 0 0).ownBlock) (.slice (some ⟨b3, 0, none⟩) 1 1) [root] from by rw [hb3]; exact HT3.out)
      rw [← hb3]
      have HB3E := Aside0.mk hb3
      clear hb3
      go_loopw [11, 12] (fun v11 v12 wq => ∃ (kept todo : List Int) (A1 A2 : Option Addr) (n1 c1 n2 c2 : Nat), v11 = .slice A1 n1 c1 ∧ v12 = .slice A2 n2 c2 ∧ Aside0 (n1 = kept.length ∧ n2 = todo.length ∧ n1 ≤ 50 ∧ n2 ≤ n1 + 1) ∧ Aside0 (Kd.R (Kd.int .i64) 3 wq b3 (fun _ => True) (.slice A1 n1 c1) kept) ∧ Aside0 (Kd.Q (Kd.int .i64) 3 wq b3 (fun k => some k ≠ (Value.slice A1 n1 c1).ownBlock) (.slice A2 n2 c2) todo) ∧ Aside0 (Bfs cs root kept todo) ∧ Aside0 (Below wp.heap.size wp wq)) (fun v11 v12 _ => 2 * (50 - lenV v11) + lenV v12)
      case atStart => exact ⟨[], [root], none, _, 0, 0, 1, 1, rfl, rfl, ⟨rfl, rfl, by omega, by omega⟩, ⟨Kd.R_nil _ _ _ _ _⟩, HT3, ⟨Bfs.start _ _⟩, HB3⟩
      case round =>
        obtain ⟨kept, todo, A1, A2, n1, c1, n2, c2, rfl, rfl, HN, HK, HT, HF, HB⟩ := hrel
        cases todo with
        | nil =>
          obtain rfl : n2 = 0 := by simpa using HN.out.2.1
          go_wp2_with fail
          have HB9 := Aside0.mk (HS.out.below HB.out)
          clear HT HB3 HT3
          go_wp2_with fail
          refine (usedA_calls HB9.out.pr.a).mono ?_
          rintro e w7 ⟨rfl, hdr⟩
          have HS7 := Aside0.mk (HB9.out.below hdr.below)
          have HK7 := Aside0.mk (Kd.R_below HK.out hdr.below)
          have HB7 := Aside0.mk (below_step HB.out hdr.below)
          clear hdr
          go_wp2_with fail
          obtain ⟨w8, hw8⟩ : ∃ w8, w8 = w7.alloc (.cells #[.int .i64 root] 3) := ⟨_, rfl⟩
          rw [← hw8]
          have HB78 := Aside0.mk (show Below w7.heap.size w7 w8 from by rw [hw8]; exact below_alloc (Below.refl _ _) _)
          have HRT := Aside0.mk (show Kd.V (Kd.int .i64) 3 w8 0 (fun k => k < w8.heap.size) (.slice (some ⟨w7.heap.size, 0, none⟩) [root].length 1) [root] from by
            rw [hw8]
            exact Kd.V_mono (Kd.R_V (Kd.R_bound (lit1_R w7.heap.size (Nat.le_refl _) root))) (fun k hk => hk.2.2.1))
          clear hw8
          have HS8 := Aside0.mk (HS7.out.below HB78.out)
          have HK8 := Aside0.mk (Kd.R_below HK7.out HB78.out)
          obtain ⟨gr, hgr⟩ : ∃ gr, gr = w7.heap.size := ⟨_, rfl⟩
          rw [← hgr] at HRT
          rw [← hgr]
          clear hgr
          obtain rfl : n1 = kept.length := HN.out.1
          refine (sweepA_calls HS8.out.pr.a (some ⟨gr, 0, none⟩) 1 [root] HRT.out (by simp)).mono ?_
          rintro e w9 ⟨ms, hdfs, rfl, hA⟩
          obtain ⟨vc9, vf9, X9, hs9⟩ := HS8.out.pr.arena hA
          obtain ⟨_, _, _, _, _, _, hkept, _⟩ := hA
          have HLF := Aside0.mk (HF.out.left hdfs)
          have HCS1 := Aside0.mk (HCS.out.sweep ms cs.length)
          have HS9 := Aside0.mk (HS8.out.trans hs9)
          have HK9 := Aside0.mk (show Kd.R (Kd.int .i64) 3 w9 b3 (fun _ => True) (.slice A1 kept.length c1) kept from
            Kd.R_mono (Kd.R_step (Kd.R_reok (ok := fun x => some x = (Value.slice A1 kept.length c1).ownBlock) rfl HK8.out (fun x e => e.symm)) (fun k hk hl => hkept.2 k hl (fun ho => by
              have h1 := HS.out.pr.a.own k ho
              have h2 := Kd.R_base HK8.out k hk.symm
              have h3 := HB3E.out
              omega))) (fun _ _ => trivial))
          obtain ⟨cs1, hcs1⟩ : ∃ x, x = (sweepS ms cs cs.length).1 := ⟨_, rfl⟩
          obtain ⟨gone, hgone⟩ : ∃ x, x = (sweepS ms cs cs.length).2 := ⟨_, rfl⟩
          rw [← hcs1, ← hgone] at HLF
          rw [← hcs1] at HCS1 HS9
          rw [← hgone]
          have HE9 := Aside0.mk (show Below w.heap.size w w9 from HBW.out.trans (by have := HS9.out.low; have h0 := HS.out.low; rw [HBE.out] at this h0; exact ⟨this.os.trans h0.os.symm, this.tape.trans h0.tape.symm, this.output.trans h0.output.symm, by have := HB.out.size; have := HB78.out.size; have := hkept.1; have := HB7.out.size; omega, fun k hk => (this.block k hk).trans (h0.block k hk).symm⟩))
          clear hdfs hs9 hkept hcs1 hgone
          go_wp2_with fail
          go_loopw [115] (fun v115 wq => ∃ (i : Nat), i ≤ kept.length ∧ v115 = .int .i64 (i : Int) ∧ Aside0 (Below w9.heap.size w9 wq)) (fun v115 _ => kept.length - (intOf v115).toNat)
          case atStart => exact ⟨0, Nat.zero_le _, rfl, ⟨Below.refl _ _⟩⟩
          case round =>
            obtain ⟨i, hi, rfl, HQ⟩ := hrel
            by_cases hlt : i < kept.length
            · have HI := Aside0.mk hlt
              have hd : decide ((i : Int) < (kept.length : Int)) = true := decide_eq_true (by omega)
              have hd2 : decide (i < kept.length) = true := decide_eq_true hlt
              have hd3 : (i : Int) < (kept.length : Int) := by omega
              obtain ⟨gk, hgk, hck⟩ := R_int_at (Kd.R_below HK9.out HQ.out) i hlt
              obtain ⟨t, ht⟩ : ∃ t, t = kept[i] := ⟨_, rfl⟩
              rw [← ht] at hck
              have hat := HLF.out.at_ t (by rw [ht]; exact List.getElem_mem hlt)
              obtain ⟨n, hn⟩ := Option.isSome_iff_exists.1 hat.2
              have HNA := Aside0.mk (show nodeAt cs1 t = some n from by rw [hat.1, hn])
              have HNR := Aside0.mk hn
              clear ht hat hn hi
              rw [hgk]
              go_wp2_with fail
              refine (nodeA_calls (HS9.out.pr.a.below HQ.out) t (fun n hn => (HCS1.out.at t n hn).1)).mono ?_
              rintro e w10 ⟨hN, hb⟩
              rw [HNA.out] at hN
              obtain ⟨D1, D2, D5, D9, f1, f2, f5, f9, rfl, x1, x2, x5, x9⟩ := hN
              have HV1 := Aside0.mk x1
              have HV2 := Aside0.mk x2
              have HV5 := Aside0.mk x5
              have HV9 := Aside0.mk x9
              have HB10 := Aside0.mk (below_step HQ.out hb)
              clear x1 x2 x5 x9 hb hck
              go_wp2_with fail
              obtain ⟨w11, hw11⟩ : ∃ w11, w11 = w10.alloc (.cells #[.bool n.f0, .slice D1 n.f1.length f1, .slice D2 n.f2.length f2, .int .i64 n.f3, .int .i64 n.f4, .slice D5 n.f5.length f5, .int .i64 n.f6, .int .i64 n.f7, .int .i64 n.f8, .slice D9 n.f9.length f9] 39) := ⟨_, rfl⟩
              rw [← hw11]
              have HA11 := Aside0.mk (show NdB w11 w10.heap.size [.bool n.f0, .slice D1 n.f1.length f1, .slice D2 n.f2.length f2, .int .i64 n.f3, .int .i64 n.f4, .slice D5 n.f5.length f5, .int .i64 n.f6, .int .i64 n.f7, .int .i64 n.f8, .slice D9 n.f9.length f9] from by rw [hw11]; exact heap_alloc_new w10 _)
              have HB1011 := Aside0.mk (show Below w10.heap.size w10 w11 from by rw [hw11]; exact below_alloc (Below.refl _ _) _)
              have HB11 := Aside0.mk (below_step HB10.out HB1011.out)
              clear hw11
              obtain ⟨g1, hg1⟩ : ∃ g1, g1 = w10.heap.size := ⟨_, rfl⟩
              rw [← hg1]
              rw [← hg1] at HA11
              clear hg1
              refine (rnode_calls (HS9.out.pr.r.below HB11.out) t (fun n hn => (HCS.out.at t n hn).1)).mono ?_
              rintro e w12 ⟨hN, hb⟩
              rw [HNR.out] at hN
              obtain ⟨E1, E2, E5, E9, h1, h2, h5, h9, rfl, x1, x2, x5, x9⟩ := hN
              have HU1 := Aside0.mk x1
              have HU2 := Aside0.mk x2
              have HU5 := Aside0.mk x5
              have HU9 := Aside0.mk x9
              have HB1112 := Aside0.mk hb
              have HB12 := Aside0.mk (below_step HB11.out hb)
              have HA12 := Aside0.mk (HA11.out.below hb)
              clear x1 x2 x5 x9 hb
              obtain ⟨s0, s1, s2, s3, s4, s5, s6, s7, s8, s9⟩ := (HA12.out.below (below_alloc (Below.refl _ _) (.cells #[.bool n.f0, .slice E1 n.f1.length h1, .slice E2 n.f2.length h2, .int .i64 n.f3, .int .i64 n.f4, .slice E5 n.f5.length h5, .int .i64 n.f6, .int .i64 n.f7, .int .i64 n.f8, .slice E9 n.f9.length h9] 39))).cells
              obtain ⟨t0, t1, t2, t3, t4, t5, t6, t7, t8, t9⟩ := NdB.cells (show NdB (w12.alloc (.cells #[.bool n.f0, .slice E1 n.f1.length h1, .slice E2 n.f2.length h2, .int .i64 n.f3, .int .i64 n.f4, .slice E5 n.f5.length h5, .int .i64 n.f6, .int .i64 n.f7, .int .i64 n.f8, .slice E9 n.f9.length h9] 39)) w12.heap.size [.bool n.f0, .slice E1 n.f1.length h1, .slice E2 n.f2.length h2, .int .i64 n.f3, .int .i64 n.f4, .slice E5 n.f5.length h5, .int .i64 n.f6, .int .i64 n.f7, .int .i64 n.f8, .slice E9 n.f9.length h9] from heap_alloc_new w12 _)
              go_wp2_with fail
              clear s0 s1 s2 s3 s4 s5 s6 s7 s8 s9 t0 t1 t2 t3 t4 t5 t6 t7 t8 t9
              obtain ⟨w13, hw13⟩ : ∃ w13, w13 = w12.alloc (.cells #[.bool n.f0, .slice E1 n.f1.length h1, .slice E2 n.f2.length h2, .int .i64 n.f3, .int .i64 n.f4, .slice E5 n.f5.length h5, .int .i64 n.f6, .int .i64 n.f7, .int .i64 n.f8, .slice E9 n.f9.length h9] 39) := ⟨_, rfl⟩
              rw [← hw13]
              have HB1213 := Aside0.mk (show Below w12.heap.size w12 w13 from by rw [hw13]; exact below_alloc (Below.refl _ _) _)
              have HB13 := Aside0.mk (below_step HB12.out HB1213.out)
              clear hw13
              have HBX := Aside0.mk (below_step (below_step HB1011.out HB1112.out) HB1213.out)
              refine (same_eq n.f0 n.f1 n.f2 n.f5 n.f9 n.f3 n.f4 n.f6 n.f7 n.f8 D1 D2 D5 D9 E1 E2 E5 E9 f1 f2 f5 f9 h1 h2 h5 h9 (Kd.V_reads' (Kd.V_below HV1.out HBX.out)).2.2 (Kd.V_reads' (Kd.V_below HV2.out HBX.out)).2.2 (Kd.V_reads' (Kd.V_below HV5.out HBX.out)).2.2 (Kd.V_reads' (Kd.V_below HV9.out HBX.out)).2.2 (Kd.V_reads' (Kd.V_below HU1.out HB1213.out)).2.2 (Kd.V_reads' (Kd.V_below HU2.out HB1213.out)).2.2 (Kd.V_reads' (Kd.V_below HU5.out HB1213.out)).2.2 (Kd.V_reads' (Kd.V_below HU9.out HB1213.out)).2.2).mono ?_
              rintro e w14 ⟨rfl, hb⟩
              have HB14 := Aside0.mk (below_step HB13.out hb)
              clear hb
              go_wp2_with fail
              have hm50 := HN.out.2.2.1
              have hw1 : wrap64 ((i : Int) + 1) = ((i + 1 : Nat) : Int) := by rw [wrap64_id _ (by omega)]; omega
              have hmeas := step_meas (k := i) (n := kept.length) HI.out hw1
              go_roundw
              case measure => exact hmeas
              case rel => exact ⟨i + 1, HI.out, by rw [hw1], HB14⟩
            · obtain rfl : i = kept.length := by omega
              have hd : decide ((kept.length : Int) < (kept.length : Int)) = false := decide_eq_false (by omega)
              have hd2 : decide (kept.length < kept.length) = false := decide_eq_false (by omega)
              have hws : wrap64 ((usedN cs : Int) - (kept.length : Int)) = (gone : Int) := by
                have h1 := HLF.out.used
                have h2 := HLF.out.gone
                have h3 := usedN_le cs
                have h4 := HC50.out
                rw [wrap64_id _ (by omega)]
                omega
              have h50 : wrap64 ((kept.length : Int) + (50 - (kept.length : Int))) = 50 := by have := HN.out.2.2.1; rw [wrap64_id _ (by omega)]; omega
              clear hi hlt
              go_wp2_with fail
              refine (usedA_calls (HS9.out.pr.a.below HQ.out)).mono ?_
              rintro e w15 ⟨rfl, hdr⟩
              have HQ15 := Aside0.mk (below_step HQ.out hdr.below)
              clear hdr
              rw [HLF.out.used]
              go_wp2_with fail
              refine (usedA_calls (HS9.out.pr.a.below HQ15.out)).mono ?_
              rintro e w16 ⟨rfl, hdr⟩
              have HQ16 := Aside0.mk (below_step HQ15.out hdr.below)
              clear hdr
              rw [HLF.out.used]
              go_wp2_with fail
              refine (roomA_calls (HS9.out.pr.a.below HQ16.out)).mono ?_
              rintro e w17 ⟨rfl, hdr⟩
              have HQ17 := Aside0.mk (below_step HQ16.out hdr.below)
              clear hdr
              rw [HLF.out.used]
              go_wp2_with fail
              have HE17 := Aside0.mk (show Below w.heap.size w w17 from HE9.out.trans (HQ17.out.mono HE9.out.size))
              refine (annalslaw09_awake.calls true _ (GlobS.of HGS.out HE17.out) rfl).mono ?_
              rintro e w18 ⟨rfl, hb⟩
              have HE18 := Aside0.mk (below_step HE17.out hb)
              clear hb
              go_wp2_with fail
              go_ret
              exact ⟨by simp, HE18.out⟩
        | cons t r =>
          have hn2 : 0 < n2 := by have := HN.out.2.1; rw [this]; simp
          have HN2 := Aside0.mk hn2
          have d0 : (0 : Int) < (n2 : Int) := by omega
          have d1 : decide ((0 : Int) < (n2 : Int)) = true := decide_eq_true d0
          have d2 : decide ((n1 : Int) < 200) = true := decide_eq_true (by have := HN.out.2.2.1; omega)
          have d3 : decide (n1 < 200) = true := decide_eq_true (by have := HN.out.2.2.1; omega)
          have d4 : decide (0 < n2) = true := decide_eq_true hn2
          obtain ⟨ad, hA, hc⟩ := Q_first HT.out
          subst hA
          obtain ⟨i0, hi0, hzz⟩ := Option.map_eq_some_iff.1 infoInt
          simp only [Prod.mk.injEq] at hzz
          obtain ⟨A3, hA3⟩ : ∃ A3, A3 = (if c2 = 1 then some ad else (some ad).map (·.add 1)) := ⟨_, rfl⟩
          have hcut : ∀ W : World, (Instr.slice 32 (.slice (some ad) n2 c2) (some (.int .i64 1)) none none).run Tryd.prog W = .ok (.slice A3 (n2 - 1) (c2 - 1)) W := fun W => by rw [hA3]; exact cut1_run _ _ Tryd.underlying32 hi0 hzz.2.1 _ _ _ hn2 W
          have HA3 := Aside0.mk hA3
          clear hA3 hzz hi0 i0
          go_wp2_with fail
          refine (rnode_calls (HS.out.pr.r.below (HB.out)) t (fun n hn => (HCS.out.at t n hn).1)).mono ?_
          rintro e w4 ⟨hN, hb⟩
          obtain ⟨n, b, hn, hb_, B1, B2, B5, B9, e1, e2, e5, e9, rfl, x1, x2, x5, x9⟩ := hN.all
          have HB4 := Aside0.mk (below_step HB.out hb)
          have HBq := Aside0.mk hb
          clear hN hb x1 x2 x5 x9
          have HB5 := Aside0.mk (show Below w4.heap.size w4 (w4.alloc (.cells #[.bool n.f0, .slice B1 n.f1.length e1, .slice B2 n.f2.length e2, .int .i64 n.f3, .int .i64 n.f4, .slice B5 n.f5.length e5, .int .i64 n.f6, .int .i64 n.f7, .int .i64 n.f8, .slice B9 n.f9.length e9] 39)) from below_alloc (Below.refl _ _) _)
          cases hnt : nodeAt cs t with
          | none =>
            have HNT := Aside0.mk hnt
            rw [hnt] at hb_ hn
            obtain rfl : b = false := hb_
            have HNE := Aside0.mk hn
            clear hn hnt d0 d1 d2 d3 d4 hc
            go_wp2_with fail
            have hm := HN.out
            have hmeas := bfs_meas1 (some ad) A1 A3 n1 c1 n2 c2 (c2 - 1) HN2.out
            go_roundw
            case measure => exact hmeas
            case rel => exact ⟨kept, r, A1, A3, n1, c1, n2 - 1, c2 - 1, rfl, rfl, ⟨hm.1, by have := hm.2.1; simp only [List.length_cons] at this; omega, hm.2.2.1, by omega⟩, ⟨Kd.R_below (Kd.R_below HK.out HBq.out) HB5.out⟩, ⟨by rw [HA3.out]; exact Kd.Q_below (Kd.Q_below (Kd.Q_drop HT.out (k := 1) (by simp)) HBq.out) HB5.out⟩, ⟨HF.out.skip (.inl HNT.out)⟩, ⟨below_step HB4.out HB5.out⟩⟩
          | some nd =>
            have HNT := Aside0.mk hnt
            rw [hnt] at hb_ hn
            obtain rfl : b = true := hb_
            obtain rfl : n = nd := hn
            have hs := heap_alloc_new w4 (.cells #[.bool n.f0, .slice B1 n.f1.length e1, .slice B2 n.f2.length e2, .int .i64 n.f3, .int .i64 n.f4, .slice B5 n.f5.length e5, .int .i64 n.f6, .int .i64 n.f7, .int .i64 n.f8, .slice B9 n.f9.length e9] 39)
            have s0 := blk_cell (show (w4.alloc (.cells #[.bool n.f0, .slice B1 n.f1.length e1, .slice B2 n.f2.length e2, .int .i64 n.f3, .int .i64 n.f4, .slice B5 n.f5.length e5, .int .i64 n.f6, .int .i64 n.f7, .int .i64 n.f8, .slice B9 n.f9.length e9] 39)).heap[w4.heap.size]? = some (.cells [.bool n.f0, .slice B1 n.f1.length e1, .slice B2 n.f2.length e2, .int .i64 n.f3, .int .i64 n.f4, .slice B5 n.f5.length e5, .int .i64 n.f6, .int .i64 n.f7, .int .i64 n.f8, .slice B9 n.f9.length e9].toArray 39 (0, 0)) from hs) 0
            have s7 := blk_cell (show (w4.alloc (.cells #[.bool n.f0, .slice B1 n.f1.length e1, .slice B2 n.f2.length e2, .int .i64 n.f3, .int .i64 n.f4, .slice B5 n.f5.length e5, .int .i64 n.f6, .int .i64 n.f7, .int .i64 n.f8, .slice B9 n.f9.length e9] 39)).heap[w4.heap.size]? = some (.cells [.bool n.f0, .slice B1 n.f1.length e1, .slice B2 n.f2.length e2, .int .i64 n.f3, .int .i64 n.f4, .slice B5 n.f5.length e5, .int .i64 n.f6, .int .i64 n.f7, .int .i64 n.f8, .slice B9 n.f9.length e9].toArray 39 (0, 0)) from hs) 7
            have s8 := blk_cell (show (w4.alloc (.cells #[.bool n.f0, .slice B1 n.f1.length e1, .slice B2 n.f2.length e2, .int .i64 n.f3, .int .i64 n.f4, .slice B5 n.f5.length e5, .int .i64 n.f6, .int .i64 n.f7, .int .i64 n.f8, .slice B9 n.f9.length e9] 39)).heap[w4.heap.size]? = some (.cells [.bool n.f0, .slice B1 n.f1.length e1, .slice B2 n.f2.length e2, .int .i64 n.f3, .int .i64 n.f4, .slice B5 n.f5.length e5, .int .i64 n.f6, .int .i64 n.f7, .int .i64 n.f8, .slice B9 n.f9.length e9].toArray 39 (0, 0)) from hs) 8
            simp at s0 s7 s8
            clear hs
            obtain ⟨ad', hA', hc5⟩ := Q_first (Kd.Q_below (Kd.Q_below HT.out HBq.out) HB5.out)
            obtain rfl : ad = ad' := Option.some.inj hA'
            clear hnt hA'
            go_wp2_with fail
            clear s0 s7 s8 hc5 hc
            obtain ⟨w5, hw5⟩ : ∃ w5, w5 = (w4.alloc (.cells #[.bool n.f0, .slice B1 n.f1.length e1, .slice B2 n.f2.length e2, .int .i64 n.f3, .int .i64 n.f4, .slice B5 n.f5.length e5, .int .i64 n.f6, .int .i64 n.f7, .int .i64 n.f8, .slice B9 n.f9.length e9] 39)) := ⟨_, rfl⟩
            rw [← hw5]
            rw [← hw5] at HB5
            have HBN := Aside0.mk (show w5.heap[w4.heap.size]? = some (.cells [.bool n.f0, .slice B1 n.f1.length e1, .slice B2 n.f2.length e2, .int .i64 n.f3, .int .i64 n.f4, .slice B5 n.f5.length e5, .int .i64 n.f6, .int .i64 n.f7, .int .i64 n.f8, .slice B9 n.f9.length e9].toArray 39 (0, 0)) from by rw [hw5]; exact heap_alloc_new w4 _)
            clear hw5
            obtain ⟨g1, hg1⟩ : ∃ g1, g1 = w4.heap.size := ⟨_, rfl⟩
            rw [← hg1]
            rw [← hg1] at HBN
            clear hg1
            obtain rfl : n1 = kept.length := HN.out.1
            refine (slices_Contains_int_int.calls (kept.length + 1) A1 c1 kept t (decide (t ∈ kept)) w5 (Kd.R_reads' (Kd.R_below (Kd.R_below HK.out HBq.out) HB5.out)).2.2 (Kd.R_reads' HK.out).2.1 (contains_f kept t (by have := HN.out.2.2.1; omega) _ (Nat.le_refl _))).mono ?_
            rintro e w6 ⟨rfl, hdr⟩
            have HBd := Aside0.mk hdr.below
            clear hdr
            have HK6 := Aside0.mk (Kd.R_below (Kd.R_below (Kd.R_below HK.out HBq.out) HB5.out) HBd.out)
            have HT6 := Aside0.mk (Kd.Q_below (Kd.Q_below (Kd.Q_below HT.out HBq.out) HB5.out) HBd.out)
            have HB6 := Aside0.mk (below_step (below_step HB4.out HB5.out) HBd.out)
            have HBN6 := Aside0.mk (blk_below HBN.out HBd.out)
            clear HK HT HBN
            by_cases hin : t ∈ kept
            · have hdt := decide_eq_true hin
              have HIN := Aside0.mk hin
              clear hin
              go_wp2_with fail
              have hm := HN.out
              have hmeas := bfs_meas1 (some ad) A1 A3 kept.length c1 n2 c2 (c2 - 1) HN2.out
              go_roundw
              case measure => exact hmeas
              case rel => exact ⟨kept, r, A1, A3, kept.length, c1, n2 - 1, c2 - 1, rfl, rfl, ⟨rfl, by have := hm.2.1; simp only [List.length_cons] at this; omega, hm.2.2.1, by omega⟩, HK6, ⟨by rw [HA3.out]; exact Kd.Q_drop HT6.out (k := 1) (by simp)⟩, ⟨HF.out.skip (.inr HIN.out)⟩, HB6⟩
            · have hdt := decide_eq_false hin
              have HIN := Aside0.mk hin
              clear hin
              have HK50 := Aside0.mk (show kept.length + 1 ≤ 50 from by
                have := used_le (HF.out.take HNT.out HIN.out rfl).dup (fun c hc => ((HF.out.take HNT.out HIN.out rfl).sound c hc).some)
                rw [List.length_append, List.length_singleton] at this
                have := HC50.out
                omega)
              obtain ⟨ad', hA', hc6⟩ := Q_first HT6.out
              obtain rfl : ad = ad' := Option.some.inj hA'
              clear hA'
              have tok1 : True := trivial
              cases hf : n.f0 with
              | true =>
                have HF0 := Aside0.mk hf
                go_wp2_with (first | (at_builtin; have _t := tok1; go_must (refine Kd.R_append (Kd.int .i64) (w0 := wp) b3 rfl (.tmp 91) (.tmp 95) 32 3 (.int .i64 0) 8 rfl Tryd.underlying32 infoInt rfl (by decide) (by omega) (.slice A1 kept.length c1) kept t [.int .i64 t] (fun _ => True) (fun _ => False) rfl rfl ?aP (fun _ hk => hk.elim) ?aF ?aO ?aB ?aS ?aL ?_; (case aP => exact rfl); (case aB => rw [HB3E.out]; exact HB6.out); (case aF => exact (fun _ _ => trivial)); (case aO => exact HK6.out); (case aS => rw [HB3E.out]; exact HB6.out.size); (case aL => have := HK50.out; omega); intro v1 w7 hR1 hb1 hg1 hat1; obtain ⟨A4, c4', e4⟩ := Kd.R_slice hR1; subst e4; obtain ⟨m1, hm1⟩ : ∃ m, m = (kept ++ [t]).length := ⟨_, rfl⟩; rw [← hm1] at hR1 hat1; rw [← hm1]; have HM1 := Aside0.mk hm1; clear hm1; have HR7 := Aside0.mk hR1; have HB7 := Aside0.mk hb1; have HT7 := Aside0.mk (Kd.Q_mono (Kd.Q_after (ok := fun _ => True) (Kd.Q_mono HT6.out (fun k hk => ⟨trivial, hk⟩)) hg1 hat1) (fun k hk => hk.2)); have hn7 := blk_grown HBN6.out hg1 (Kd.R_ne HK6.out HBN6.out (by decide)); have k0 := blk_cell hn7 0; have k7 := blk_cell hn7 7; have k8 := blk_cell hn7 8; simp at k0 k7 k8; rw [hf] at k0; clear hn7 hR1 hb1 hg1 hat1 tok1 _t)))
                have hm := HN.out
                have hmm := HM1.out
                rw [List.length_append, List.length_singleton] at hmm
                have hmeas := bfs_meas2 (some ad) A1 A4 A3 kept.length c1 n2 c2 m1 c4' n2 (c2 - 1) hmm HK50.out (by omega)
                go_roundw
                case measure => exact hmeas
                case rel => exact ⟨kept ++ [t], r, A4, A3, m1, c4', n2 - 1, c2 - 1, rfl, rfl, ⟨HM1.out, by have := hm.2.1; simp only [List.length_cons] at this; omega, by have := HK50.out; omega, by omega⟩, HR7, ⟨by rw [HA3.out]; exact Kd.Q_drop HT7.out (k := 1) (by simp)⟩, ⟨by have := HF.out.take HNT.out HIN.out rfl; rw [HF0.out] at this; simpa using this⟩, ⟨by have := HB7.out; rwa [HB3E.out] at this⟩⟩
              | false =>
                have HF0 := Aside0.mk hf
                go_wp2_with (first | (at_builtin; have _t := tok1; go_must (refine Kd.R_append (Kd.int .i64) (w0 := wp) b3 rfl (.tmp 91) (.tmp 95) 32 3 (.int .i64 0) 8 rfl Tryd.underlying32 infoInt rfl (by decide) (by omega) (.slice A1 kept.length c1) kept t [.int .i64 t] (fun _ => True) (fun _ => False) rfl rfl ?aP (fun _ hk => hk.elim) ?aF ?aO ?aB ?aS ?aL ?_; (case aP => exact rfl); (case aB => rw [HB3E.out]; exact HB6.out); (case aF => exact (fun _ _ => trivial)); (case aO => exact HK6.out); (case aS => rw [HB3E.out]; exact HB6.out.size); (case aL => have := HK50.out; omega); intro v1 w7 hR1 hb1 hg1 hat1; obtain ⟨A4, c4', e4⟩ := Kd.R_slice hR1; subst e4; obtain ⟨m1, hm1⟩ : ∃ m, m = (kept ++ [t]).length := ⟨_, rfl⟩; rw [← hm1] at hR1 hat1; rw [← hm1]; have HM1 := Aside0.mk hm1; clear hm1; have HR7 := Aside0.mk hR1; have HB7 := Aside0.mk hb1; have HT7 := Aside0.mk (Kd.Q_mono (Kd.Q_after (ok := fun _ => True) (Kd.Q_mono HT6.out (fun k hk => ⟨trivial, hk⟩)) hg1 hat1) (fun k hk => hk.2)); have hn7 := blk_grown HBN6.out hg1 (Kd.R_ne HK6.out HBN6.out (by decide)); have k0 := blk_cell hn7 0; have k7 := blk_cell hn7 7; have k8 := blk_cell hn7 8; simp at k0 k7 k8; rw [hf] at k0; clear hn7 hR1 hb1 hg1 hat1 tok1 _t)) | (at_builtin; go_must (refine Q_append2 (w0 := wp) b3 rfl (.tmp 100) (.tmp 105) 32 3 (.int .i64 0) 8 rfl Tryd.underlying32 infoInt rfl (by omega) (.slice (some ad) n2 c2) (t :: r) n.f7 n.f8 (fun k => some k ≠ (Value.slice A4 m1 c4').ownBlock) rfl rfl ?aF ?aO ?aB ?aS ?aL ?_; (case aB => exact HB7.out); (case aF => exact (fun k hk he => by have := Kd.R_lt HR7.out k he.symm; omega)); (case aO => exact HT7.out); (case aS => have := HB7.out.size; have := HB3E.out; omega); (case aL => have := HN.out.2.1; have := HN.out.2.2; omega); intro v2 w8 hQ2 hb2 hg2 hat2; obtain ⟨A5, c5, e5, _⟩ := Kd.Q_slice hQ2; subst e5; obtain ⟨m2, hm2⟩ : ∃ m, m = ((t :: r) ++ [n.f7, n.f8]).length := ⟨_, rfl⟩; rw [← hm2] at hQ2; rw [← hm2]; have HQ8 := Aside0.mk hQ2; have HB8 := Aside0.mk hb2; have HR8 := Aside0.mk (Kd.R_mono (Kd.R_grown (Kd.R_reok (ok := fun x => some x = (Value.slice A4 m1 c4').ownBlock) rfl HR7.out (fun x e => e.symm)) hg2 (fun k hk he => HT7.out.1 k he.symm hk)) (fun _ _ => trivial)); obtain ⟨A6, hA6⟩ : ∃ A6, A6 = (if c5 = 1 then A5 else A5.map (·.add 1)) := ⟨_, rfl⟩; obtain ⟨i0, hi0, hzz⟩ := Option.map_eq_some_iff.1 infoInt; simp only [Prod.mk.injEq] at hzz; have HM2 := Aside0.mk hm2; have hm2p : 1 ≤ m2 := (by (rw [HM2.out]; simp)); have hcut2 : ∀ W : World, (Instr.slice 32 (.slice A5 m2 c5) (some (.int .i64 1)) none none).run Tryd.prog W = .ok (.slice A6 (m2 - 1) (c5 - 1)) W := (fun W => by (rw [hA6]; exact cut1_run _ _ Tryd.underlying32 hi0 hzz.2.1 _ _ _ hm2p W)); have HA6 := Aside0.mk hA6; clear hA6 hm2 hQ2 hb2 hg2 hat2 hi0 hzz)))
                have hm := HN.out
                have hmm := HM1.out
                rw [List.length_append, List.length_singleton] at hmm
                have hmm2 := HM2.out
                simp only [List.length_append, List.length_cons, List.length_nil] at hmm2
                have hn2' := hm.2.1
                simp only [List.length_cons] at hn2'
                have hmeas := bfs_meas2 (some ad) A1 A4 A6 kept.length c1 n2 c2 m1 c4' m2 (c5 - 1) hmm HK50.out (by omega)
                go_roundw
                case measure => exact hmeas
                case rel => exact ⟨kept ++ [t], r ++ [n.f7, n.f8], A4, A6, m1, c4', m2 - 1, c5 - 1, rfl, rfl, ⟨HM1.out, by simp only [List.length_append, List.length_cons, List.length_nil]; omega, by have := HK50.out; omega, by omega⟩, HR8, ⟨by rw [HA6.out]; exact Kd.Q_drop HQ8.out (k := 1) (by simp)⟩, ⟨by have := HF.out.take HNT.out HIN.out rfl; rw [HF0.out] at this; simpa using this⟩, ⟨by have := HB8.out; rwa [HB3E.out] at this⟩⟩
end Go.Proofs.YtdeneoknjeegbaaDoor.P
end
section
set_option linter.unusedVariables false
set_option linter.unusedSimpArgs false
namespace Go.Proofs.YtdeneoknjeegbaaDoor.P
open Go.RowKit Go.Proofs.YtdeneoknjeegbaaDoorW.PrintWords Go.Proofs.YtdeneoknjeegbaaDoorW.PrintLast Go.Proofs.YtdeneoknjeegbaaDoorW.PrintMore
theorem list_of {α : Type} (n : Nat) (R : Nat → α → Prop) (h : ∀ i, i < n → ∃ a, R i a) : ∃ xs : List α, xs.length = n ∧ ∀ i a, xs[i]? = some a → R i a := by
  induction n with
  | zero => exact ⟨[], rfl, fun i a hi => by simp at hi⟩
  | succ n ih =>
    obtain ⟨xs, hl, hx⟩ := ih (fun i hi => h i (by omega))
    obtain ⟨a, ha⟩ := h n (by omega)
    refine ⟨xs ++ [a], by simp [hl], fun i b hb => ?_⟩
    by_cases hi : i < n
    · rw [List.getElem?_append_left (by omega)] at hb
      exact hx i b hb
    · rw [List.getElem?_append_right (by omega)] at hb
      have h0 : i - xs.length = 0 := by
        have := (List.getElem?_eq_some_iff.1 hb).1
        simp at this
        omega
      rw [h0] at hb
      have hin : i = n := by omega
      subst hin
      have : a = b := by simpa using hb
      subst this
      exact ha
theorem weightsAll_mem {H : Type} {P : Program} {e : TypeId} {l : List (DataW H)} {d : DataW H} (hd : d ∈ l) {n : Nat} (hn : n ∈ d.weights P e) : n ∈ DataW.weightsAll P e l := by
  induction l with
  | nil => simp at hd
  | cons a l ih =>
    simp only [DataW.weightsAll, List.mem_append]
    rcases List.mem_cons.1 hd with rfl | hd
    · exact .inl hn
    · exact .inr (ih hd)
structure Opens (P : Program) (t : Nat) {α : Type} (d : Kd α) (wf : α → Prop) : Prop where
  size : P.cellsOf t = d.sz
  get : ∀ {H : Type} {enc : TypeId × Value → H} {w : World} {base : Nat} {spare : Nat → Bool} {held : Bool} {fuel : Nat} {cs : List Value} {x : DataW H × List MemPlace},
    DataW.trod enc P w base spare held fuel t cs = some x → (∀ n ∈ x.1.weights P t, n ≤ reachBytes) → ∃ a, d.K w a cs ∧ wf a
theorem Opens.imp {P : Program} {t : Nat} {α : Type} {d : Kd α} {wf wf' : α → Prop} (h : Opens P t d wf) (hi : ∀ a, wf a → wf' a) : Opens P t d wf' :=
  ⟨h.size, fun h1 h2 => by
    obtain ⟨a, h3, h4⟩ := h.get h1 h2
    exact ⟨a, h3, hi a h4⟩⟩
theorem Opens.int {P : Program} {t : Nat} {k : IntKind} (hu : P.underlying t = some (.int k)) (hc : P.cellsOf t = 1) : Opens P t (Kd.int k) (fun n => (Lit.int k n).wf = true) :=
  ⟨hc, fun h _ => by
    obtain ⟨n, rfl, _, hw⟩ := DataW.trod_int hu h
    exact ⟨n, rfl, hw⟩⟩
theorem Opens.bool {P : Program} {t : Nat} (hu : P.underlying t = some .bool) (hc : P.cellsOf t = 1) : Opens P t Kd.bool (fun _ => True) :=
  ⟨hc, fun h _ => by
    obtain ⟨n, rfl, _⟩ := DataW.trod_bool hu h
    exact ⟨n, rfl, trivial⟩⟩
theorem Opens.slice {P : Program} {t e : Nat} {α : Type} {d : Kd α} {wf : α → Prop} (hu : P.underlying t = some (.slice e)) (hc : P.cellsOf t = 1) (he : Opens P e d wf) :
    Opens P t (Kd.slice e d) (fun xs => xs.length * P.bytesOf e ≤ reachBytes ∧ ∀ a, a ∈ xs → wf a) := by
  refine ⟨hc, fun {H enc w base spare held fuel cs x} h hw => ?_⟩
  rcases DataW.trod_slice hu h with ⟨rfl, rfl⟩ | ⟨ad, len, cap, elems, rest, n, _, rfl, rfl, hb, hl, hm, hlen, hel, hsp, hns⟩
  · exact ⟨[], ⟨none, 0, rfl, Nat.le_refl _, Kd.C_nil d w⟩, by simp, by simp⟩
  · have hwa : ∀ d0 ∈ elems.map (·.1), ∀ m ∈ DataW.weights P e d0, m ≤ reachBytes := fun d0 hd0 m hm0 => hw m (by
      simp only [DataW.weights, hu, List.mem_cons, List.mem_append]
      exact .inr (.inl (weightsAll_mem hd0 hm0)))
    have hsz : (elems.length + rest.length) * P.bytesOf e ≤ reachBytes := hw _ (by simp [DataW.weights, hu])
    obtain ⟨xs, hxl, hx⟩ := list_of len (fun i a => wf a ∧ ∃ c, c.length = d.sz ∧ d.K w a c ∧ ∀ j u, c[j]? = some u → w.cell? (ad.add (i * d.sz + j)) = some u) (fun i hi => by
      have h1 := hel i hi
      have hi' : i < elems.length := by omega
      rw [List.getElem?_eq_getElem hi', Option.bind_eq_some_iff] at h1
      obtain ⟨c, hc1, hc2⟩ := h1
      obtain ⟨_, hlc, hcell⟩ := World.cells?_some hc1
      obtain ⟨a, hK, hwf⟩ := he.get hc2 (fun m hm0 => hwa _ (List.mem_map.2 ⟨_, List.getElem_mem hi', rfl⟩) m hm0)
      refine ⟨a, hwf, c, d.K_len hK, hK, fun j u hj => ?_⟩
      have hj' : j < c.length := (List.getElem?_eq_some_iff.1 hj).1
      have h2 := hcell j (by omega)
      rw [hj] at h2
      rw [← h2, he.size]
      congr 1
      unfold Addr.add
      by_cases h3 : i * d.sz = 0 <;> by_cases h4 : j = 0 <;> simp [h3, h4, Nat.add_assoc])
    refine ⟨xs, ⟨some ad, cap, by rw [hxl], by omega, ⟨rfl, by unfold maxLen at hm; omega, fun _ => ⟨ad, rfl, fun j p hj => ?_⟩⟩⟩, ?_, fun a ha => ?_⟩
    · obtain ⟨_, c, h1, h2, h3⟩ := hx j p hj
      exact ⟨c, h1, h2, h3⟩
    · rw [hxl]
      refine Nat.le_trans (Nat.mul_le_mul_right _ ?_) hsz
      omega
    · obtain ⟨i, hi⟩ := List.getElem?_of_mem ha
      exact (hx i a hi).1
structure OpensF (P : Program) (fs : List Field) (off : Nat) {α : Type} (d : Kd α) (wf : α → Prop) : Prop where
  get : ∀ {H : Type} {enc : TypeId × Value → H} {w : World} {base : Nat} {spare : Nat → Bool} {held : Bool} {fuel : Nat} {cs : List Value} {xs : List (DataW H × List MemPlace)},
    cs.length = off + d.sz → xs.length = fs.length → (∀ (i : Nat) (f : Field), fs[i]? = some f → DataW.trod enc P w base spare held fuel f.type ((cs.drop f.offset).take (P.cellsOf f.type)) = xs[i]?) →
    (∀ n ∈ DataW.weightsEach P (fs.map (·.type)) (xs.map (·.1)), n ≤ reachBytes) → ∃ a, d.K w a (cs.drop off) ∧ wf a
theorem OpensF.one {P : Program} {f : Field} {α : Type} {d : Kd α} {wf : α → Prop} {t off : Nat} (ht : f.type = t) (ho : f.offset = off) (h : Opens P t d wf) : OpensF P [f] off d wf := by
  subst ht
  subst ho
  refine ⟨fun {H enc w base spare held fuel cs xs} hl hxl hx hw => ?_⟩
  match xs, hxl with
  | [x], _ =>
    have h1 := hx 0 f rfl
    rw [List.take_of_length_le (by rw [List.length_drop, h.size]; omega)] at h1
    exact h.get h1 (fun n hn => hw n (by simp only [List.map_cons, List.map_nil, DataW.weightsEach, List.mem_append]; exact .inl hn))
theorem OpensF.cons {P : Program} {f : Field} {fs : List Field} {α β : Type} {d : Kd α} {d' : Kd β} {wf : α → Prop} {wf' : β → Prop} {t off off' : Nat} (ht : f.type = t) (ho : f.offset = off) (h : Opens P t d wf)
    (ho' : off + d.sz = off') (hr : OpensF P fs off' d' wf') : OpensF P (f :: fs) off (Kd.pair d d') (fun x => wf x.1 ∧ wf' x.2) := by
  subst ht
  subst ho
  subst ho'
  refine ⟨fun {H enc w base spare held fuel cs xs} hl hxl hx hw => ?_⟩
  match xs, hxl with
  | x :: xs, hxl =>
    have hl' : cs.length = f.offset + (d.sz + d'.sz) := hl
    have h1 := hx 0 f rfl
    obtain ⟨a, ha, hwa⟩ := h.get h1 (fun n hn => hw n (by simp only [List.map_cons, DataW.weightsEach, List.mem_append]; exact .inl hn))
    obtain ⟨b, hb, hwb⟩ := hr.get (by rw [hl']; omega) (by simpa using hxl) (fun i g hg => by simpa using hx (i + 1) g (by simpa using hg)) (fun n hn => hw n (by simp only [List.map_cons, DataW.weightsEach, List.mem_append]; exact .inr hn))
    refine ⟨(a, b), ⟨_, _, ?_, ha, hb⟩, hwa, hwb⟩
    rw [h.size]
    have := List.take_append_drop d.sz (cs.drop f.offset)
    rw [List.drop_drop] at this
    exact this.symm
theorem Opens.struct {P : Program} {t : Nat} {fs : Array Field} {α : Type} {d : Kd α} {wf : α → Prop} (hu : P.underlying t = some (.struct fs)) (hc : P.cellsOf t = d.sz) (h : OpensF P fs.toList 0 d wf) : Opens P t d wf := by
  refine ⟨hc, fun {H enc w base spare held fuel cs x} h1 hw => ?_⟩
  obtain ⟨xs, n, _, rfl, hl, hxl, hx⟩ := DataW.trod_struct hu h1
  have := h.get (cs := cs) (by rw [hl, hc]; omega) (by simpa using hxl) (fun i f hf => hx i f (by simpa using hf)) (fun n hn => hw n (by simp only [DataW.weights, hu]; exact hn))
  simpa using this
theorem Opens.iso {P : Program} {t : Nat} {α β : Type} {d : Kd α} {wf : α → Prop} (h : Opens P t d wf) (f : β → α) (g : α → β) (hfg : ∀ a, f (g a) = a) : Opens P t (Kd.iso d f) (fun b => wf (f b)) :=
  ⟨h.size, fun h1 hw => by
    obtain ⟨a, ha, hwa⟩ := h.get h1 hw
    exact ⟨g a, by show d.K _ (f (g a)) _; rw [hfg]; exact ha, by show wf (f (g a)); rw [hfg]; exact hwa⟩⟩
theorem Opens.param {P : Program} {t e : Nat} {α : Type} {d : Kd α} {wf : List α → Prop} (ho : Opens P t (Kd.slice e d) wf) {H : Type} {enc : TypeId × Value → H} {w : World} {base : Nat} {spare : Nat → Bool} {held : Bool} {fuel : Nat}
    {A : Option Addr} {len cap : Nat} {x : DataW H × List MemPlace} (h : DataW.trod enc P w base spare held fuel t [.slice A len cap] = some x) (hw : ∀ n ∈ x.1.weights P t, n ≤ reachBytes) :
    ∃ xs : List α, len = xs.length ∧ xs.length ≤ cap ∧ d.C w A xs.length xs ∧ wf xs := by
  obtain ⟨xs, ⟨A', c, he, hl, hC⟩, hwf⟩ := ho.get h hw
  injection he with he _
  injection he with h1 h2 h3
  subst h1
  subst h3
  exact ⟨xs, h2, hl, hC, hwf⟩
end Go.Proofs.YtdeneoknjeegbaaDoor.P
end
