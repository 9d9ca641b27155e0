/- Lemmas of this claim, part 15. -/
import Derived.Test.YteamljekjncbfaaDoorPartSeekOne2
section
namespace Go.Proofs.YteamljekjncbfaaDoor.P
open Go.RowKit Go.Proofs.YteamljekjncbfaaDoorW.PrintWords Go.Proofs.YteamljekjncbfaaDoorW.PrintLast Go.Proofs.YteamljekjncbfaaDoorW.PrintMore
attribute [local go_sem] max2_int min2_int max_two min_two max_three min_three max_four min_four
set_option linter.unusedVariables false
set_option linter.unusedSimpArgs false
mutual
def annalsref13_Same.j0 : Nat → Bool → Int → Int → List Int → Int → List Int → List (List Int) → Int → Int → List Int → Int → List Int → List (List Int) → Option (Bool)
  | 0, _, _, _, _, _, _, _, _, _, _, _, _, _ => none
  | k + 1, x51, x426000, x426001, x426002, x426003, x426004, x426005, x427000, x427001, x427002, x427003, x427004, x427005 => if x51 = true then (some false) else (annalsref13_Same.l0 k (x426005.length : Int) 0 x426000 x426001 x426002 x426003 x426004 x426005 x427000 x427001 x427002 x427003 x427004 x427005)
def annalsref13_Same.l0 : Nat → Int → Int → Int → Int → List Int → Int → List Int → List (List Int) → Int → Int → List Int → Int → List Int → List (List Int) → Option (Bool)
  | 0, _, _, _, _, _, _, _, _, _, _, _, _, _, _ => none
  | k + 1, x54, x55, x426000, x426001, x426002, x426003, x426004, x426005, x427000, x427001, x427002, x427003, x427004, x427005 => if x55 < x54 then (if 0 ≤ x55 then (if x55 < (x426005.length : Int) then (if x55 < (x427005.length : Int) then (if (strOfNums (rd_L1 x426005 x55)).toList = (strOfNums (rd_L1 x427005 x55)).toList then (annalsref13_Same.l0 k x54 (wrap64 (x55 + 1)) x426000 x426001 x426002 x426003 x426004 x426005 x427000 x427001 x427002 x427003 x427004 x427005) else (some false)) else (none)) else (none)) else (none)) else (some true)
end
def annalsref13_Same.f (k : Nat) (a0_0 : Int) (a0_1 : Int) (l0_2 : List Int) (a0_3 : Int) (l0_4 : List Int) (l0_5 : List (List Int)) (a1_0 : Int) (a1_1 : Int) (l1_2 : List Int) (a1_3 : Int) (l1_4 : List Int) (l1_5 : List (List Int)) : Option (Bool) := if a0_0 = a1_0 then (if a0_1 = a1_1 then (if (strOfNums l0_2).toList = (strOfNums l1_2).toList then (if a0_3 = a1_3 then (if (strOfNums l0_4).toList = (strOfNums l1_4).toList then (annalsref13_Same.j0 k ((l0_5.length : Int) != (l1_5.length : Int)) a0_0 a0_1 l0_2 a0_3 l0_4 l0_5 a1_0 a1_1 l1_2 a1_3 l1_4 l1_5) else (annalsref13_Same.j0 k true a0_0 a0_1 l0_2 a0_3 l0_4 l0_5 a1_0 a1_1 l1_2 a1_3 l1_4 l1_5)) else (annalsref13_Same.j0 k true a0_0 a0_1 l0_2 a0_3 l0_4 l0_5 a1_0 a1_1 l1_2 a1_3 l1_4 l1_5)) else (annalsref13_Same.j0 k true a0_0 a0_1 l0_2 a0_3 l0_4 l0_5 a1_0 a1_1 l1_2 a1_3 l1_4 l1_5)) else (annalsref13_Same.j0 k true a0_0 a0_1 l0_2 a0_3 l0_4 l0_5 a1_0 a1_1 l1_2 a1_3 l1_4 l1_5)) else (annalsref13_Same.j0 k true a0_0 a0_1 l0_2 a0_3 l0_4 l0_5 a1_0 a1_1 l1_2 a1_3 l1_4 l1_5)
set_option maxHeartbeats 8000000 in
set_option maxRecDepth 100000 in
theorem annalsref13_Same.calls (k : Nat) (a0_0 : Int) (a0_1 : Int) (A0_2 : Option Addr) (c0_2 : Nat) (l0_2 : List Int) (a0_3 : Int) (A0_4 : Option Addr) (c0_4 : Nat) (l0_4 : List Int) (A0_5 : Option Addr) (c0_5 : Nat) (l0_5 : List (List Int)) (a1_0 : Int) (a1_1 : Int) (A1_2 : Option Addr) (c1_2 : Nat) (l1_2 : List Int) (a1_3 : Int) (A1_4 : Option Addr) (c1_4 : Nat) (l1_4 : List Int) (A1_5 : Option Addr) (c1_5 : Nat) (l1_5 : List (List Int)) (r : Bool) (w : World) (hr0_2 : Kd.C (Kd.int .u8) w A0_2 l0_2.length l0_2) (hc0_2 : l0_2.length ≤ c0_2) (hr0_4 : Kd.C (Kd.int .u8) w A0_4 l0_4.length l0_4) (hc0_4 : l0_4.length ≤ c0_4) (hr0_5 : Kd.C (Kd.slice 5 (Kd.int .u8)) w A0_5 l0_5.length l0_5) (hc0_5 : l0_5.length ≤ c0_5) (hr1_2 : Kd.C (Kd.int .u8) w A1_2 l1_2.length l1_2) (hc1_2 : l1_2.length ≤ c1_2) (hr1_4 : Kd.C (Kd.int .u8) w A1_4 l1_4.length l1_4) (hc1_4 : l1_4.length ≤ c1_4) (hr1_5 : Kd.C (Kd.slice 5 (Kd.int .u8)) w A1_5 l1_5.length l1_5) (hc1_5 : l1_5.length ≤ c1_5) (h : annalsref13_Same.f k a0_0 a0_1 l0_2 a0_3 l0_4 l0_5 a1_0 a1_1 l1_2 a1_3 l1_4 l1_5 = some r) :
    Calls Tryd.prog 32 #[.agg #[.int .i64 a0_0, .int .i64 a0_1, .slice A0_2 l0_2.length c0_2, .int .i64 a0_3, .slice A0_4 l0_4.length c0_4, .slice A0_5 l0_5.length c0_5], .agg #[.int .i64 a1_0, .int .i64 a1_1, .slice A1_2 l1_2.length c1_2, .int .i64 a1_3, .slice A1_4 l1_4.length c1_4, .slice A1_5 l1_5.length c1_5]] w fun e w' => e = .returned (.bool r) ∧ Below w.heap.size w w' := by
  have hu40 := Tryd.underlying40
  have HR0_2 := Aside0.mk hr0_2
  have HC0_2 := Aside0.mk hc0_2
  clear hr0_2 hc0_2
  have HR0_4 := Aside0.mk hr0_4
  have HC0_4 := Aside0.mk hc0_4
  clear hr0_4 hc0_4
  have HR0_5 := Aside0.mk hr0_5
  have HC0_5 := Aside0.mk hc0_5
  clear hr0_5 hc0_5
  have HR1_2 := Aside0.mk hr1_2
  have HC1_2 := Aside0.mk hc1_2
  clear hr1_2 hc1_2
  have HR1_4 := Aside0.mk hr1_4
  have HC1_4 := Aside0.mk hc1_4
  clear hr1_4 hc1_4
  have HR1_5 := Aside0.mk hr1_5
  have HC1_5 := Aside0.mk hc1_5
  clear hr1_5 hc1_5
  have HB := Aside0.mk (Below.refl w.heap.size w)
  have H : (if a0_0 = a1_0 then (if a0_1 = a1_1 then (if (strOfNums l0_2).toList = (strOfNums l1_2).toList then (if a0_3 = a1_3 then (if (strOfNums l0_4).toList = (strOfNums l1_4).toList then (annalsref13_Same.j0 k ((l0_5.length : Int) != (l1_5.length : Int)) a0_0 a0_1 l0_2 a0_3 l0_4 l0_5 a1_0 a1_1 l1_2 a1_3 l1_4 l1_5) else (annalsref13_Same.j0 k true a0_0 a0_1 l0_2 a0_3 l0_4 l0_5 a1_0 a1_1 l1_2 a1_3 l1_4 l1_5)) else (annalsref13_Same.j0 k true a0_0 a0_1 l0_2 a0_3 l0_4 l0_5 a1_0 a1_1 l1_2 a1_3 l1_4 l1_5)) else (annalsref13_Same.j0 k true a0_0 a0_1 l0_2 a0_3 l0_4 l0_5 a1_0 a1_1 l1_2 a1_3 l1_4 l1_5)) else (annalsref13_Same.j0 k true a0_0 a0_1 l0_2 a0_3 l0_4 l0_5 a1_0 a1_1 l1_2 a1_3 l1_4 l1_5)) else (annalsref13_Same.j0 k true a0_0 a0_1 l0_2 a0_3 l0_4 l0_5 a1_0 a1_1 l1_2 a1_3 l1_4 l1_5)) = some r := h
  clear h
  have HC3 := Aside0.mk H
  clear H
  go_enter Tryd.func32, Tryd.ntmps32
  go_upto_region 1 with (first | ((with_reducible refine gate_dst (N := 2) rfl ?_); (try (refine gate_guard (by rfl) ?_; dsimp only)); refine box_event ?hg (N := 2) ?hd (cs := #[.int .i64 a0_0, .int .i64 a0_1, .slice A0_2 l0_2.length c0_2, .int .i64 a0_3, .slice A0_4 l0_4.length c0_4, .slice A0_5 l0_5.length c0_5]) (t := 40) ?hr ?_; (case hd => rfl); (case hg => rfl); (case hr => first | (go_simp; done) | (go_simp; rfl)); intro gb425 hg w4 hbox hb; have n0_ := Aside0.mk (below_step (by repeat (first | (with_reducible first | exact HB.out | apply below_alloc | apply pw_below_drewN | apply below_drew1) | exact HB.out)) hb); have n1_ := Aside0.mk (hbox); have n2_ := Aside0.mk ((by rw [hg]; exact (below_size (by repeat (first | (with_reducible first | exact HB.out | apply below_alloc | apply pw_below_drewN | apply below_drew1) | exact HB.out))) : w.heap.size ≤ gb425)); have n3_ := Aside0.mk ((by rw [hg]; exact (below_size (by repeat (first | (with_reducible first | exact HB.out | apply below_alloc | apply pw_below_drewN | apply below_drew1) | exact HB.out))) : w.heap.size ≤ gb425)); clear HB; have HB := n0_; have BK425 := n1_; have GW425 := n2_; have GE425 := n3_; clear n0_ n1_ n2_ n3_; clear hb hbox hg) | ((with_reducible refine gate_dst (N := 3) rfl ?_); (try (refine gate_guard (by rfl) ?_; dsimp only)); refine box_event ?hg (N := 3) ?hd (cs := #[.int .i64 a1_0, .int .i64 a1_1, .slice A1_2 l1_2.length c1_2, .int .i64 a1_3, .slice A1_4 l1_4.length c1_4, .slice A1_5 l1_5.length c1_5]) (t := 40) ?hr ?_; (case hd => rfl); (case hg => rfl); (case hr => first | (go_simp; done) | (go_simp; rfl)); intro gb426 hg w5 hbox hb; have n0_ := Aside0.mk (blk_below (g := gb425) (o := .cells #[.int .i64 a0_0, .int .i64 a0_1, .slice A0_2 l0_2.length c0_2, .int .i64 a0_3, .slice A0_4 l0_4.length c0_4, .slice A0_5 l0_5.length c0_5] 40 (0, 0)) (by (with_reducible repeat (first | refine blk_drewN ?_ _ | refine blk_drew ?_ | refine blk_alloc ?_ _)); exact BK425.out) hb); have n1_ := Aside0.mk (below_step (by repeat (first | (with_reducible first | exact HB.out | apply below_alloc | apply pw_below_drewN | apply below_drew1 | refine below_set ?_ GE425.out) | exact HB.out)) hb); have n2_ := Aside0.mk (hbox); have n3_ := Aside0.mk ((by rw [hg]; exact (below_size (by repeat (first | (with_reducible first | exact HB.out | apply below_alloc | apply pw_below_drewN | apply below_drew1 | refine below_set ?_ GE425.out) | exact HB.out))) : w.heap.size ≤ gb426)); have n4_ := Aside0.mk ((by rw [hg]; exact (below_size (by repeat (first | (with_reducible first | exact HB.out | apply below_alloc | apply pw_below_drewN | apply below_drew1 | refine below_set ?_ GE425.out) | exact HB.out))) : w.heap.size ≤ gb426)); have n5_ := Aside0.mk ((by rw [hg]; exact Nat.ne_of_lt (blk_lt (g := gb425) (o := .cells #[.int .i64 a0_0, .int .i64 a0_1, .slice A0_2 l0_2.length c0_2, .int .i64 a0_3, .slice A0_4 l0_4.length c0_4, .slice A0_5 l0_5.length c0_5] 40 (0, 0)) (by (with_reducible repeat (first | refine blk_drewN ?_ _ | refine blk_drew ?_ | refine blk_alloc ?_ _)); exact BK425.out)) : gb425 ≠ gb426)); have n6_ := Aside0.mk ((by rw [hg]; exact Nat.ne_of_gt (blk_lt (g := gb425) (o := .cells #[.int .i64 a0_0, .int .i64 a0_1, .slice A0_2 l0_2.length c0_2, .int .i64 a0_3, .slice A0_4 l0_4.length c0_4, .slice A0_5 l0_5.length c0_5] 40 (0, 0)) (by (with_reducible repeat (first | refine blk_drewN ?_ _ | refine blk_drew ?_ | refine blk_alloc ?_ _)); exact BK425.out)) : gb426 ≠ gb425)); clear BK425; clear HB; have BK425 := n0_; have HB := n1_; have BK426 := n2_; have GW426 := n3_; have GE426 := n4_; have NB425_426 := n5_; have NB426_425 := n6_; clear n0_ n1_ n2_ n3_ n4_ n5_ n6_; clear hb hbox hg))
  repeat (go_quiet (first | ((with_reducible refine gate_dst (N := 2) rfl ?_); (try (refine gate_guard (by rfl) ?_; dsimp only)); refine box_event ?hg (N := 2) ?hd (cs := #[.int .i64 a0_0, .int .i64 a0_1, .slice A0_2 l0_2.length c0_2, .int .i64 a0_3, .slice A0_4 l0_4.length c0_4, .slice A0_5 l0_5.length c0_5]) (t := 40) ?hr ?_; (case hd => rfl); (case hg => rfl); (case hr => first | (go_simp; done) | (go_simp; rfl)); intro gb425 hg w4 hbox hb; have n0_ := Aside0.mk (below_step (by repeat (first | (with_reducible first | exact HB.out | apply below_alloc | apply pw_below_drewN | apply below_drew1) | exact HB.out)) hb); have n1_ := Aside0.mk (hbox); have n2_ := Aside0.mk ((by rw [hg]; exact (below_size (by repeat (first | (with_reducible first | exact HB.out | apply below_alloc | apply pw_below_drewN | apply below_drew1) | exact HB.out))) : w.heap.size ≤ gb425)); have n3_ := Aside0.mk ((by rw [hg]; exact (below_size (by repeat (first | (with_reducible first | exact HB.out | apply below_alloc | apply pw_below_drewN | apply below_drew1) | exact HB.out))) : w.heap.size ≤ gb425)); clear HB; have HB := n0_; have BK425 := n1_; have GW425 := n2_; have GE425 := n3_; clear n0_ n1_ n2_ n3_; clear hb hbox hg) | ((with_reducible refine gate_dst (N := 3) rfl ?_); (try (refine gate_guard (by rfl) ?_; dsimp only)); refine box_event ?hg (N := 3) ?hd (cs := #[.int .i64 a1_0, .int .i64 a1_1, .slice A1_2 l1_2.length c1_2, .int .i64 a1_3, .slice A1_4 l1_4.length c1_4, .slice A1_5 l1_5.length c1_5]) (t := 40) ?hr ?_; (case hd => rfl); (case hg => rfl); (case hr => first | (go_simp; done) | (go_simp; rfl)); intro gb426 hg w5 hbox hb; have n0_ := Aside0.mk (blk_below (g := gb425) (o := .cells #[.int .i64 a0_0, .int .i64 a0_1, .slice A0_2 l0_2.length c0_2, .int .i64 a0_3, .slice A0_4 l0_4.length c0_4, .slice A0_5 l0_5.length c0_5] 40 (0, 0)) (by (with_reducible repeat (first | refine blk_drewN ?_ _ | refine blk_drew ?_ | refine blk_alloc ?_ _)); exact BK425.out) hb); have n1_ := Aside0.mk (below_step (by repeat (first | (with_reducible first | exact HB.out | apply below_alloc | apply pw_below_drewN | apply below_drew1 | refine below_set ?_ GE425.out) | exact HB.out)) hb); have n2_ := Aside0.mk (hbox); have n3_ := Aside0.mk ((by rw [hg]; exact (below_size (by repeat (first | (with_reducible first | exact HB.out | apply below_alloc | apply pw_below_drewN | apply below_drew1 | refine below_set ?_ GE425.out) | exact HB.out))) : w.heap.size ≤ gb426)); have n4_ := Aside0.mk ((by rw [hg]; exact (below_size (by repeat (first | (with_reducible first | exact HB.out | apply below_alloc | apply pw_below_drewN | apply below_drew1 | refine below_set ?_ GE425.out) | exact HB.out))) : w.heap.size ≤ gb426)); have n5_ := Aside0.mk ((by rw [hg]; exact Nat.ne_of_lt (blk_lt (g := gb425) (o := .cells #[.int .i64 a0_0, .int .i64 a0_1, .slice A0_2 l0_2.length c0_2, .int .i64 a0_3, .slice A0_4 l0_4.length c0_4, .slice A0_5 l0_5.length c0_5] 40 (0, 0)) (by (with_reducible repeat (first | refine blk_drewN ?_ _ | refine blk_drew ?_ | refine blk_alloc ?_ _)); exact BK425.out)) : gb425 ≠ gb426)); have n6_ := Aside0.mk ((by rw [hg]; exact Nat.ne_of_gt (blk_lt (g := gb425) (o := .cells #[.int .i64 a0_0, .int .i64 a0_1, .slice A0_2 l0_2.length c0_2, .int .i64 a0_3, .slice A0_4 l0_4.length c0_4, .slice A0_5 l0_5.length c0_5] 40 (0, 0)) (by (with_reducible repeat (first | refine blk_drewN ?_ _ | refine blk_drew ?_ | refine blk_alloc ?_ _)); exact BK425.out)) : gb426 ≠ gb425)); clear BK425; clear HB; have BK425 := n0_; have HB := n1_; have BK426 := n2_; have GW426 := n3_; have GE426 := n4_; have NB425_426 := n5_; have NB426_425 := n6_; clear n0_ n1_ n2_ n3_ n4_ n5_ n6_; clear hb hbox hg)); go_upto_region 1 with (first | ((with_reducible refine gate_dst (N := 2) rfl ?_); (try (refine gate_guard (by rfl) ?_; dsimp only)); refine box_event ?hg (N := 2) ?hd (cs := #[.int .i64 a0_0, .int .i64 a0_1, .slice A0_2 l0_2.length c0_2, .int .i64 a0_3, .slice A0_4 l0_4.length c0_4, .slice A0_5 l0_5.length c0_5]) (t := 40) ?hr ?_; (case hd => rfl); (case hg => rfl); (case hr => first | (go_simp; done) | (go_simp; rfl)); intro gb425 hg w4 hbox hb; have n0_ := Aside0.mk (below_step (by repeat (first | (with_reducible first | exact HB.out | apply below_alloc | apply pw_below_drewN | apply below_drew1) | exact HB.out)) hb); have n1_ := Aside0.mk (hbox); have n2_ := Aside0.mk ((by rw [hg]; exact (below_size (by repeat (first | (with_reducible first | exact HB.out | apply below_alloc | apply pw_below_drewN | apply below_drew1) | exact HB.out))) : w.heap.size ≤ gb425)); have n3_ := Aside0.mk ((by rw [hg]; exact (below_size (by repeat (first | (with_reducible first | exact HB.out | apply below_alloc | apply pw_below_drewN | apply below_drew1) | exact HB.out))) : w.heap.size ≤ gb425)); clear HB; have HB := n0_; have BK425 := n1_; have GW425 := n2_; have GE425 := n3_; clear n0_ n1_ n2_ n3_; clear hb hbox hg) | ((with_reducible refine gate_dst (N := 3) rfl ?_); (try (refine gate_guard (by rfl) ?_; dsimp only)); refine box_event ?hg (N := 3) ?hd (cs := #[.int .i64 a1_0, .int .i64 a1_1, .slice A1_2 l1_2.length c1_2, .int .i64 a1_3, .slice A1_4 l1_4.length c1_4, .slice A1_5 l1_5.length c1_5]) (t := 40) ?hr ?_; (case hd => rfl); (case hg => rfl); (case hr => first | (go_simp; done) | (go_simp; rfl)); intro gb426 hg w5 hbox hb; have n0_ := Aside0.mk (blk_below (g := gb425) (o := .cells #[.int .i64 a0_0, .int .i64 a0_1, .slice A0_2 l0_2.length c0_2, .int .i64 a0_3, .slice A0_4 l0_4.length c0_4, .slice A0_5 l0_5.length c0_5] 40 (0, 0)) (by (with_reducible repeat (first | refine blk_drewN ?_ _ | refine blk_drew ?_ | refine blk_alloc ?_ _)); exact BK425.out) hb); have n1_ := Aside0.mk (below_step (by repeat (first | (with_reducible first | exact HB.out | apply below_alloc | apply pw_below_drewN | apply below_drew1 | refine below_set ?_ GE425.out) | exact HB.out)) hb); have n2_ := Aside0.mk (hbox); have n3_ := Aside0.mk ((by rw [hg]; exact (below_size (by repeat (first | (with_reducible first | exact HB.out | apply below_alloc | apply pw_below_drewN | apply below_drew1 | refine below_set ?_ GE425.out) | exact HB.out))) : w.heap.size ≤ gb426)); have n4_ := Aside0.mk ((by rw [hg]; exact (below_size (by repeat (first | (with_reducible first | exact HB.out | apply below_alloc | apply pw_below_drewN | apply below_drew1 | refine below_set ?_ GE425.out) | exact HB.out))) : w.heap.size ≤ gb426)); have n5_ := Aside0.mk ((by rw [hg]; exact Nat.ne_of_lt (blk_lt (g := gb425) (o := .cells #[.int .i64 a0_0, .int .i64 a0_1, .slice A0_2 l0_2.length c0_2, .int .i64 a0_3, .slice A0_4 l0_4.length c0_4, .slice A0_5 l0_5.length c0_5] 40 (0, 0)) (by (with_reducible repeat (first | refine blk_drewN ?_ _ | refine blk_drew ?_ | refine blk_alloc ?_ _)); exact BK425.out)) : gb425 ≠ gb426)); have n6_ := Aside0.mk ((by rw [hg]; exact Nat.ne_of_gt (blk_lt (g := gb425) (o := .cells #[.int .i64 a0_0, .int .i64 a0_1, .slice A0_2 l0_2.length c0_2, .int .i64 a0_3, .slice A0_4 l0_4.length c0_4, .slice A0_5 l0_5.length c0_5] 40 (0, 0)) (by (with_reducible repeat (first | refine blk_drewN ?_ _ | refine blk_drew ?_ | refine blk_alloc ?_ _)); exact BK425.out)) : gb426 ≠ gb425)); clear BK425; clear HB; have BK425 := n0_; have HB := n1_; have BK426 := n2_; have GW426 := n3_; have GE426 := n4_; have NB425_426 := n5_; have NB426_425 := n6_; clear n0_ n1_ n2_ n3_ n4_ n5_ n6_; clear hb hbox hg)))
  (try simp only [Act.put, List.setIfInBounds_toArray, List.set_cons_zero, List.set_cons_succ])
  go_cut [51] (fun v51 wc => ∃ (kq : Nat) (x51_2 : Bool), v51 = .bool x51_2 ∧ Aside0 (annalsref13_Same.j0 kq x51_2 a0_0 a0_1 l0_2 a0_3 l0_4 l0_5 a1_0 a1_1 l1_2 a1_3 l1_4 l1_5 = some r) ∧ Aside0 (kq ≤ k) ∧ Aside0 (wc.heap[gb425]? = some (.cells #[.int .i64 a0_0, .int .i64 a0_1, (.slice A0_2 l0_2.length c0_2), .int .i64 a0_3, (.slice A0_4 l0_4.length c0_4), (.slice A0_5 l0_5.length c0_5)] 40 (0, 0))) ∧ Aside0 (wc.heap[gb426]? = some (.cells #[.int .i64 a1_0, .int .i64 a1_1, (.slice A1_2 l1_2.length c1_2), .int .i64 a1_3, (.slice A1_4 l1_4.length c1_4), (.slice A1_5 l1_5.length c1_5)] 40 (0, 0))) ∧ Aside0 (Below w.heap.size w wc))
  case first =>
    have H := HC3.out
    clear HC3
    by_cases c6 : a0_0 = a1_0
    · rw [if_pos c6] at H
      have c6b0 : (a0_0 == a1_0) = true := beq_iff_eq.mpr c6
      have c6b1 : (a0_0 != a1_0) = false := bne_eq_false_iff_eq.mpr c6
      clear c6
      (first | rw [c6b0] | (simp only [i64_w, i32_w]; rw [c6b0]) | skip)
      by_cases c7 : a0_1 = a1_1
      · rw [if_pos c7] at H
        have c7b0 : (a0_1 == a1_1) = true := beq_iff_eq.mpr c7
        have c7b1 : (a0_1 != a1_1) = false := bne_eq_false_iff_eq.mpr c7
        clear c7
        by_cases c8 : (strOfNums l0_2).toList = (strOfNums l1_2).toList
        · rw [if_pos c8] at H
          have c8b0 : ((strOfNums l0_2).toList == (strOfNums l1_2).toList) = true := beq_iff_eq.mpr c8
          have c8b1 : ((strOfNums l0_2).toList != (strOfNums l1_2).toList) = false := bne_eq_false_iff_eq.mpr c8
          clear c8
          by_cases c9 : a0_3 = a1_3
          · rw [if_pos c9] at H
            have c9b0 : (a0_3 == a1_3) = true := beq_iff_eq.mpr c9
            have c9b1 : (a0_3 != a1_3) = false := bne_eq_false_iff_eq.mpr c9
            clear c9
            by_cases c10 : (strOfNums l0_4).toList = (strOfNums l1_4).toList
            · rw [if_pos c10] at H
              have c10b0 : ((strOfNums l0_4).toList == (strOfNums l1_4).toList) = true := beq_iff_eq.mpr c10
              have c10b1 : ((strOfNums l0_4).toList != (strOfNums l1_4).toList) = false := bne_eq_false_iff_eq.mpr c10
              clear c10
              have H' := Aside0.mk H
              clear H
              have hnb11 := NB425_426.out
              have hnc11 := NB426_425.out
              have hcz12_0 : w5.cell? ⟨gb425, 0, none⟩ = some (.int .i64 a0_0) := (blk_cell BK425.out 0).trans rfl
              have hcz12_1 : w5.cell? ⟨gb425, 1, none⟩ = some (.int .i64 a0_1) := (blk_cell BK425.out 1).trans rfl
              have hcz12_2 : w5.cell? ⟨gb425, 2, none⟩ = some (.slice A0_2 l0_2.length c0_2) := (blk_cell BK425.out 2).trans rfl
              have hcz12_3 : w5.cell? ⟨gb425, 3, none⟩ = some (.int .i64 a0_3) := (blk_cell BK425.out 3).trans rfl
              have hcz12_4 : w5.cell? ⟨gb425, 4, none⟩ = some (.slice A0_4 l0_4.length c0_4) := (blk_cell BK425.out 4).trans rfl
              have hcz12_5 : w5.cell? ⟨gb425, 5, none⟩ = some (.slice A0_5 l0_5.length c0_5) := (blk_cell BK425.out 5).trans rfl
              have hfz12_0 := blk_frozen BK425.out 0
              have hfz12_1 := blk_frozen BK425.out 1
              have hfz12_2 := blk_frozen BK425.out 2
              have hfz12_3 := blk_frozen BK425.out 3
              have hfz12_4 := blk_frozen BK425.out 4
              have hfz12_5 := blk_frozen BK425.out 5
              have hcz13_0 : w5.cell? ⟨gb426, 0, none⟩ = some (.int .i64 a1_0) := (blk_cell BK426.out 0).trans rfl
              have hcz13_1 : w5.cell? ⟨gb426, 1, none⟩ = some (.int .i64 a1_1) := (blk_cell BK426.out 1).trans rfl
              have hcz13_2 : w5.cell? ⟨gb426, 2, none⟩ = some (.slice A1_2 l1_2.length c1_2) := (blk_cell BK426.out 2).trans rfl
              have hcz13_3 : w5.cell? ⟨gb426, 3, none⟩ = some (.int .i64 a1_3) := (blk_cell BK426.out 3).trans rfl
              have hcz13_4 : w5.cell? ⟨gb426, 4, none⟩ = some (.slice A1_4 l1_4.length c1_4) := (blk_cell BK426.out 4).trans rfl
              have hcz13_5 : w5.cell? ⟨gb426, 5, none⟩ = some (.slice A1_5 l1_5.length c1_5) := (blk_cell BK426.out 5).trans rfl
              have hfz13_0 := blk_frozen BK426.out 0
              have hfz13_1 := blk_frozen BK426.out 1
              have hfz13_2 := blk_frozen BK426.out 2
              have hfz13_3 := blk_frozen BK426.out 3
              have hfz13_4 := blk_frozen BK426.out 4
              have hfz13_5 := blk_frozen BK426.out 5
              have hcv14 := Kd.C_string (P := Tryd.prog) (A := A0_2) (c := c0_2) Tryd.underlying33 Tryd.underlying5 Tryd.underlying9 (Kd.C_below HR0_2.out HB.out)
              have hcv14d := fun m_ => Kd.C_string (P := Tryd.prog) (A := A0_2) (c := c0_2) Tryd.underlying33 Tryd.underlying5 Tryd.underlying9 (Kd.C_below HR0_2.out (pw_below_drewN HB.out m_))
              have hcv15 := Kd.C_string (P := Tryd.prog) (A := A1_2) (c := c1_2) Tryd.underlying33 Tryd.underlying5 Tryd.underlying9 (Kd.C_below HR1_2.out HB.out)
              have hcv15d := fun m_ => Kd.C_string (P := Tryd.prog) (A := A1_2) (c := c1_2) Tryd.underlying33 Tryd.underlying5 Tryd.underlying9 (Kd.C_below HR1_2.out (pw_below_drewN HB.out m_))
              have hcv16 := Kd.C_string (P := Tryd.prog) (A := A0_4) (c := c0_4) Tryd.underlying33 Tryd.underlying5 Tryd.underlying9 (Kd.C_below HR0_4.out HB.out)
              have hcv16d := fun m_ => Kd.C_string (P := Tryd.prog) (A := A0_4) (c := c0_4) Tryd.underlying33 Tryd.underlying5 Tryd.underlying9 (Kd.C_below HR0_4.out (pw_below_drewN HB.out m_))
              have hcv17 := Kd.C_string (P := Tryd.prog) (A := A1_4) (c := c1_4) Tryd.underlying33 Tryd.underlying5 Tryd.underlying9 (Kd.C_below HR1_4.out HB.out)
              have hcv17d := fun m_ => Kd.C_string (P := Tryd.prog) (A := A1_4) (c := c1_4) Tryd.underlying33 Tryd.underlying5 Tryd.underlying9 (Kd.C_below HR1_4.out (pw_below_drewN HB.out m_))
              go_wp2
              repeat (go_quiet (fail); try go_wp2)
              go_meet
              case rel => exact ⟨_, (((l0_5.length : Int) != (l1_5.length : Int))), (by first | rfl | (simp; done) | (simp [*]; done)), H', ⟨by first | omega | exact Nat.le_refl _⟩, ⟨by (with_reducible repeat (first | refine blk_drewN ?_ _ | refine blk_drew ?_ | refine blk_alloc ?_ _)); exact BK425.out⟩, ⟨by (with_reducible repeat (first | refine blk_drewN ?_ _ | refine blk_drew ?_ | refine blk_alloc ?_ _)); exact BK426.out⟩, ⟨by repeat (first | (with_reducible first | exact HB.out | apply below_alloc | apply pw_below_drewN | apply below_drew1 | refine below_set ?_ GE425.out | refine below_set ?_ GE426.out) | exact HB.out)⟩⟩
            · rw [if_neg c10] at H
              have c10b0 : ((strOfNums l0_4).toList == (strOfNums l1_4).toList) = false := beq_eq_false_iff_ne.mpr c10
              have c10b1 : ((strOfNums l0_4).toList != (strOfNums l1_4).toList) = true := bne_iff_ne.mpr c10
              have H' := Aside0.mk H
              clear H
              have hnb18 := NB425_426.out
              have hnc18 := NB426_425.out
              have hcz19_0 : w5.cell? ⟨gb425, 0, none⟩ = some (.int .i64 a0_0) := (blk_cell BK425.out 0).trans rfl
              have hcz19_1 : w5.cell? ⟨gb425, 1, none⟩ = some (.int .i64 a0_1) := (blk_cell BK425.out 1).trans rfl
              have hcz19_2 : w5.cell? ⟨gb425, 2, none⟩ = some (.slice A0_2 l0_2.length c0_2) := (blk_cell BK425.out 2).trans rfl
              have hcz19_3 : w5.cell? ⟨gb425, 3, none⟩ = some (.int .i64 a0_3) := (blk_cell BK425.out 3).trans rfl
              have hcz19_4 : w5.cell? ⟨gb425, 4, none⟩ = some (.slice A0_4 l0_4.length c0_4) := (blk_cell BK425.out 4).trans rfl
              have hcz19_5 : w5.cell? ⟨gb425, 5, none⟩ = some (.slice A0_5 l0_5.length c0_5) := (blk_cell BK425.out 5).trans rfl
              have hfz19_0 := blk_frozen BK425.out 0
              have hfz19_1 := blk_frozen BK425.out 1
              have hfz19_2 := blk_frozen BK425.out 2
              have hfz19_3 := blk_frozen BK425.out 3
              have hfz19_4 := blk_frozen BK425.out 4
              have hfz19_5 := blk_frozen BK425.out 5
              have hcz20_0 : w5.cell? ⟨gb426, 0, none⟩ = some (.int .i64 a1_0) := (blk_cell BK426.out 0).trans rfl
              have hcz20_1 : w5.cell? ⟨gb426, 1, none⟩ = some (.int .i64 a1_1) := (blk_cell BK426.out 1).trans rfl
              have hcz20_2 : w5.cell? ⟨gb426, 2, none⟩ = some (.slice A1_2 l1_2.length c1_2) := (blk_cell BK426.out 2).trans rfl
              have hcz20_3 : w5.cell? ⟨gb426, 3, none⟩ = some (.int .i64 a1_3) := (blk_cell BK426.out 3).trans rfl
              have hcz20_4 : w5.cell? ⟨gb426, 4, none⟩ = some (.slice A1_4 l1_4.length c1_4) := (blk_cell BK426.out 4).trans rfl
              have hcz20_5 : w5.cell? ⟨gb426, 5, none⟩ = some (.slice A1_5 l1_5.length c1_5) := (blk_cell BK426.out 5).trans rfl
              have hfz20_0 := blk_frozen BK426.out 0
              have hfz20_1 := blk_frozen BK426.out 1
              have hfz20_2 := blk_frozen BK426.out 2
              have hfz20_3 := blk_frozen BK426.out 3
              have hfz20_4 := blk_frozen BK426.out 4
              have hfz20_5 := blk_frozen BK426.out 5
              have hcv21 := Kd.C_string (P := Tryd.prog) (A := A0_2) (c := c0_2) Tryd.underlying33 Tryd.underlying5 Tryd.underlying9 (Kd.C_below HR0_2.out HB.out)
              have hcv21d := fun m_ => Kd.C_string (P := Tryd.prog) (A := A0_2) (c := c0_2) Tryd.underlying33 Tryd.underlying5 Tryd.underlying9 (Kd.C_below HR0_2.out (pw_below_drewN HB.out m_))
              have hcv22 := Kd.C_string (P := Tryd.prog) (A := A1_2) (c := c1_2) Tryd.underlying33 Tryd.underlying5 Tryd.underlying9 (Kd.C_below HR1_2.out HB.out)
              have hcv22d := fun m_ => Kd.C_string (P := Tryd.prog) (A := A1_2) (c := c1_2) Tryd.underlying33 Tryd.underlying5 Tryd.underlying9 (Kd.C_below HR1_2.out (pw_below_drewN HB.out m_))
              have hcv23 := Kd.C_string (P := Tryd.prog) (A := A0_4) (c := c0_4) Tryd.underlying33 Tryd.underlying5 Tryd.underlying9 (Kd.C_below HR0_4.out HB.out)
              have hcv23d := fun m_ => Kd.C_string (P := Tryd.prog) (A := A0_4) (c := c0_4) Tryd.underlying33 Tryd.underlying5 Tryd.underlying9 (Kd.C_below HR0_4.out (pw_below_drewN HB.out m_))
              have hcv24 := Kd.C_string (P := Tryd.prog) (A := A1_4) (c := c1_4) Tryd.underlying33 Tryd.underlying5 Tryd.underlying9 (Kd.C_below HR1_4.out HB.out)
              have hcv24d := fun m_ => Kd.C_string (P := Tryd.prog) (A := A1_4) (c := c1_4) Tryd.underlying33 Tryd.underlying5 Tryd.underlying9 (Kd.C_below HR1_4.out (pw_below_drewN HB.out m_))
              go_wp2
              repeat (go_quiet (fail); try go_wp2)
              go_meet
              case rel => exact ⟨_, (true), (by first | rfl | (simp; done) | (simp [*]; done)), H', ⟨by first | omega | exact Nat.le_refl _⟩, ⟨by (with_reducible repeat (first | refine blk_drewN ?_ _ | refine blk_drew ?_ | refine blk_alloc ?_ _)); exact BK425.out⟩, ⟨by (with_reducible repeat (first | refine blk_drewN ?_ _ | refine blk_drew ?_ | refine blk_alloc ?_ _)); exact BK426.out⟩, ⟨by repeat (first | (with_reducible first | exact HB.out | apply below_alloc | apply pw_below_drewN | apply below_drew1 | refine below_set ?_ GE425.out | refine below_set ?_ GE426.out) | exact HB.out)⟩⟩
          · rw [if_neg c9] at H
            have c9b0 : (a0_3 == a1_3) = false := beq_eq_false_iff_ne.mpr c9
            have c9b1 : (a0_3 != a1_3) = true := bne_iff_ne.mpr c9
            have H' := Aside0.mk H
            clear H
            have hnb25 := NB425_426.out
            have hnc25 := NB426_425.out
            have hcz26_0 : w5.cell? ⟨gb425, 0, none⟩ = some (.int .i64 a0_0) := (blk_cell BK425.out 0).trans rfl
            have hcz26_1 : w5.cell? ⟨gb425, 1, none⟩ = some (.int .i64 a0_1) := (blk_cell BK425.out 1).trans rfl
            have hcz26_2 : w5.cell? ⟨gb425, 2, none⟩ = some (.slice A0_2 l0_2.length c0_2) := (blk_cell BK425.out 2).trans rfl
            have hcz26_3 : w5.cell? ⟨gb425, 3, none⟩ = some (.int .i64 a0_3) := (blk_cell BK425.out 3).trans rfl
            have hcz26_4 : w5.cell? ⟨gb425, 4, none⟩ = some (.slice A0_4 l0_4.length c0_4) := (blk_cell BK425.out 4).trans rfl
            have hcz26_5 : w5.cell? ⟨gb425, 5, none⟩ = some (.slice A0_5 l0_5.length c0_5) := (blk_cell BK425.out 5).trans rfl
            have hfz26_0 := blk_frozen BK425.out 0
            have hfz26_1 := blk_frozen BK425.out 1
            have hfz26_2 := blk_frozen BK425.out 2
            have hfz26_3 := blk_frozen BK425.out 3
            have hfz26_4 := blk_frozen BK425.out 4
            have hfz26_5 := blk_frozen BK425.out 5
            have hcz27_0 : w5.cell? ⟨gb426, 0, none⟩ = some (.int .i64 a1_0) := (blk_cell BK426.out 0).trans rfl
            have hcz27_1 : w5.cell? ⟨gb426, 1, none⟩ = some (.int .i64 a1_1) := (blk_cell BK426.out 1).trans rfl
            have hcz27_2 : w5.cell? ⟨gb426, 2, none⟩ = some (.slice A1_2 l1_2.length c1_2) := (blk_cell BK426.out 2).trans rfl
            have hcz27_3 : w5.cell? ⟨gb426, 3, none⟩ = some (.int .i64 a1_3) := (blk_cell BK426.out 3).trans rfl
            have hcz27_4 : w5.cell? ⟨gb426, 4, none⟩ = some (.slice A1_4 l1_4.length c1_4) := (blk_cell BK426.out 4).trans rfl
            have hcz27_5 : w5.cell? ⟨gb426, 5, none⟩ = some (.slice A1_5 l1_5.length c1_5) := (blk_cell BK426.out 5).trans rfl
            have hfz27_0 := blk_frozen BK426.out 0
            have hfz27_1 := blk_frozen BK426.out 1
            have hfz27_2 := blk_frozen BK426.out 2
            have hfz27_3 := blk_frozen BK426.out 3
            have hfz27_4 := blk_frozen BK426.out 4
            have hfz27_5 := blk_frozen BK426.out 5
            have hcv28 := Kd.C_string (P := Tryd.prog) (A := A0_2) (c := c0_2) Tryd.underlying33 Tryd.underlying5 Tryd.underlying9 (Kd.C_below HR0_2.out HB.out)
            have hcv28d := fun m_ => Kd.C_string (P := Tryd.prog) (A := A0_2) (c := c0_2) Tryd.underlying33 Tryd.underlying5 Tryd.underlying9 (Kd.C_below HR0_2.out (pw_below_drewN HB.out m_))
            have hcv29 := Kd.C_string (P := Tryd.prog) (A := A1_2) (c := c1_2) Tryd.underlying33 Tryd.underlying5 Tryd.underlying9 (Kd.C_below HR1_2.out HB.out)
            have hcv29d := fun m_ => Kd.C_string (P := Tryd.prog) (A := A1_2) (c := c1_2) Tryd.underlying33 Tryd.underlying5 Tryd.underlying9 (Kd.C_below HR1_2.out (pw_below_drewN HB.out m_))
            go_wp2
            repeat (go_quiet (fail); try go_wp2)
            go_meet
            case rel => exact ⟨_, (true), (by first | rfl | (simp; done) | (simp [*]; done)), H', ⟨by first | omega | exact Nat.le_refl _⟩, ⟨by (with_reducible repeat (first | refine blk_drewN ?_ _ | refine blk_drew ?_ | refine blk_alloc ?_ _)); exact BK425.out⟩, ⟨by (with_reducible repeat (first | refine blk_drewN ?_ _ | refine blk_drew ?_ | refine blk_alloc ?_ _)); exact BK426.out⟩, ⟨by repeat (first | (with_reducible first | exact HB.out | apply below_alloc | apply pw_below_drewN | apply below_drew1 | refine below_set ?_ GE425.out | refine below_set ?_ GE426.out) | exact HB.out)⟩⟩
        · rw [if_neg c8] at H
          have c8b0 : ((strOfNums l0_2).toList == (strOfNums l1_2).toList) = false := beq_eq_false_iff_ne.mpr c8
          have c8b1 : ((strOfNums l0_2).toList != (strOfNums l1_2).toList) = true := bne_iff_ne.mpr c8
          have H' := Aside0.mk H
          clear H
          have hnb30 := NB425_426.out
          have hnc30 := NB426_425.out
          have hcz31_0 : w5.cell? ⟨gb425, 0, none⟩ = some (.int .i64 a0_0) := (blk_cell BK425.out 0).trans rfl
          have hcz31_1 : w5.cell? ⟨gb425, 1, none⟩ = some (.int .i64 a0_1) := (blk_cell BK425.out 1).trans rfl
          have hcz31_2 : w5.cell? ⟨gb425, 2, none⟩ = some (.slice A0_2 l0_2.length c0_2) := (blk_cell BK425.out 2).trans rfl
          have hcz31_3 : w5.cell? ⟨gb425, 3, none⟩ = some (.int .i64 a0_3) := (blk_cell BK425.out 3).trans rfl
          have hcz31_4 : w5.cell? ⟨gb425, 4, none⟩ = some (.slice A0_4 l0_4.length c0_4) := (blk_cell BK425.out 4).trans rfl
          have hcz31_5 : w5.cell? ⟨gb425, 5, none⟩ = some (.slice A0_5 l0_5.length c0_5) := (blk_cell BK425.out 5).trans rfl
          have hfz31_0 := blk_frozen BK425.out 0
          have hfz31_1 := blk_frozen BK425.out 1
          have hfz31_2 := blk_frozen BK425.out 2
          have hfz31_3 := blk_frozen BK425.out 3
          have hfz31_4 := blk_frozen BK425.out 4
          have hfz31_5 := blk_frozen BK425.out 5
          have hcz32_0 : w5.cell? ⟨gb426, 0, none⟩ = some (.int .i64 a1_0) := (blk_cell BK426.out 0).trans rfl
          have hcz32_1 : w5.cell? ⟨gb426, 1, none⟩ = some (.int .i64 a1_1) := (blk_cell BK426.out 1).trans rfl
          have hcz32_2 : w5.cell? ⟨gb426, 2, none⟩ = some (.slice A1_2 l1_2.length c1_2) := (blk_cell BK426.out 2).trans rfl
          have hcz32_3 : w5.cell? ⟨gb426, 3, none⟩ = some (.int .i64 a1_3) := (blk_cell BK426.out 3).trans rfl
          have hcz32_4 : w5.cell? ⟨gb426, 4, none⟩ = some (.slice A1_4 l1_4.length c1_4) := (blk_cell BK426.out 4).trans rfl
          have hcz32_5 : w5.cell? ⟨gb426, 5, none⟩ = some (.slice A1_5 l1_5.length c1_5) := (blk_cell BK426.out 5).trans rfl
          have hfz32_0 := blk_frozen BK426.out 0
          have hfz32_1 := blk_frozen BK426.out 1
          have hfz32_2 := blk_frozen BK426.out 2
          have hfz32_3 := blk_frozen BK426.out 3
          have hfz32_4 := blk_frozen BK426.out 4
          have hfz32_5 := blk_frozen BK426.out 5
          have hcv33 := Kd.C_string (P := Tryd.prog) (A := A0_2) (c := c0_2) Tryd.underlying33 Tryd.underlying5 Tryd.underlying9 (Kd.C_below HR0_2.out HB.out)
          have hcv33d := fun m_ => Kd.C_string (P := Tryd.prog) (A := A0_2) (c := c0_2) Tryd.underlying33 Tryd.underlying5 Tryd.underlying9 (Kd.C_below HR0_2.out (pw_below_drewN HB.out m_))
          have hcv34 := Kd.C_string (P := Tryd.prog) (A := A1_2) (c := c1_2) Tryd.underlying33 Tryd.underlying5 Tryd.underlying9 (Kd.C_below HR1_2.out HB.out)
          have hcv34d := fun m_ => Kd.C_string (P := Tryd.prog) (A := A1_2) (c := c1_2) Tryd.underlying33 Tryd.underlying5 Tryd.underlying9 (Kd.C_below HR1_2.out (pw_below_drewN HB.out m_))
          go_wp2
          repeat (go_quiet (fail); try go_wp2)
          go_meet
          case rel => exact ⟨_, (true), (by first | rfl | (simp; done) | (simp [*]; done)), H', ⟨by first | omega | exact Nat.le_refl _⟩, ⟨by (with_reducible repeat (first | refine blk_drewN ?_ _ | refine blk_drew ?_ | refine blk_alloc ?_ _)); exact BK425.out⟩, ⟨by (with_reducible repeat (first | refine blk_drewN ?_ _ | refine blk_drew ?_ | refine blk_alloc ?_ _)); exact BK426.out⟩, ⟨by repeat (first | (with_reducible first | exact HB.out | apply below_alloc | apply pw_below_drewN | apply below_drew1 | refine below_set ?_ GE425.out | refine below_set ?_ GE426.out) | exact HB.out)⟩⟩
      · rw [if_neg c7] at H
        have c7b0 : (a0_1 == a1_1) = false := beq_eq_false_iff_ne.mpr c7
        have c7b1 : (a0_1 != a1_1) = true := bne_iff_ne.mpr c7
        have H' := Aside0.mk H
        clear H
        have hnb35 := NB425_426.out
        have hnc35 := NB426_425.out
        have hcz36_0 : w5.cell? ⟨gb425, 0, none⟩ = some (.int .i64 a0_0) := (blk_cell BK425.out 0).trans rfl
        have hcz36_1 : w5.cell? ⟨gb425, 1, none⟩ = some (.int .i64 a0_1) := (blk_cell BK425.out 1).trans rfl
        have hcz36_2 : w5.cell? ⟨gb425, 2, none⟩ = some (.slice A0_2 l0_2.length c0_2) := (blk_cell BK425.out 2).trans rfl
        have hcz36_3 : w5.cell? ⟨gb425, 3, none⟩ = some (.int .i64 a0_3) := (blk_cell BK425.out 3).trans rfl
        have hcz36_4 : w5.cell? ⟨gb425, 4, none⟩ = some (.slice A0_4 l0_4.length c0_4) := (blk_cell BK425.out 4).trans rfl
        have hcz36_5 : w5.cell? ⟨gb425, 5, none⟩ = some (.slice A0_5 l0_5.length c0_5) := (blk_cell BK425.out 5).trans rfl
        have hfz36_0 := blk_frozen BK425.out 0
        have hfz36_1 := blk_frozen BK425.out 1
        have hfz36_2 := blk_frozen BK425.out 2
        have hfz36_3 := blk_frozen BK425.out 3
        have hfz36_4 := blk_frozen BK425.out 4
        have hfz36_5 := blk_frozen BK425.out 5
        have hcz37_0 : w5.cell? ⟨gb426, 0, none⟩ = some (.int .i64 a1_0) := (blk_cell BK426.out 0).trans rfl
        have hcz37_1 : w5.cell? ⟨gb426, 1, none⟩ = some (.int .i64 a1_1) := (blk_cell BK426.out 1).trans rfl
        have hcz37_2 : w5.cell? ⟨gb426, 2, none⟩ = some (.slice A1_2 l1_2.length c1_2) := (blk_cell BK426.out 2).trans rfl
        have hcz37_3 : w5.cell? ⟨gb426, 3, none⟩ = some (.int .i64 a1_3) := (blk_cell BK426.out 3).trans rfl
        have hcz37_4 : w5.cell? ⟨gb426, 4, none⟩ = some (.slice A1_4 l1_4.length c1_4) := (blk_cell BK426.out 4).trans rfl
        have hcz37_5 : w5.cell? ⟨gb426, 5, none⟩ = some (.slice A1_5 l1_5.length c1_5) := (blk_cell BK426.out 5).trans rfl
        have hfz37_0 := blk_frozen BK426.out 0
        have hfz37_1 := blk_frozen BK426.out 1
        have hfz37_2 := blk_frozen BK426.out 2
        have hfz37_3 := blk_frozen BK426.out 3
        have hfz37_4 := blk_frozen BK426.out 4
        have hfz37_5 := blk_frozen BK426.out 5
        go_wp2
        repeat (go_quiet (fail); try go_wp2)
        go_meet
        case rel => exact ⟨_, (true), (by first | rfl | (simp; done) | (simp [*]; done)), H', ⟨by first | omega | exact Nat.le_refl _⟩, ⟨by (with_reducible repeat (first | refine blk_drewN ?_ _ | refine blk_drew ?_ | refine blk_alloc ?_ _)); exact BK425.out⟩, ⟨by (with_reducible repeat (first | refine blk_drewN ?_ _ | refine blk_drew ?_ | refine blk_alloc ?_ _)); exact BK426.out⟩, ⟨by repeat (first | (with_reducible first | exact HB.out | apply below_alloc | apply pw_below_drewN | apply below_drew1 | refine below_set ?_ GE425.out | refine below_set ?_ GE426.out) | exact HB.out)⟩⟩
    · rw [if_neg c6] at H
      have c6b0 : (a0_0 == a1_0) = false := beq_eq_false_iff_ne.mpr c6
      have c6b1 : (a0_0 != a1_0) = true := bne_iff_ne.mpr c6
      (first | rw [c6b0] | (simp only [i64_w, i32_w]; rw [c6b0]) | skip)
      have H' := Aside0.mk H
      clear H
      have hnb38 := NB425_426.out
      have hnc38 := NB426_425.out
      have hcz39_0 : w5.cell? ⟨gb425, 0, none⟩ = some (.int .i64 a0_0) := (blk_cell BK425.out 0).trans rfl
      have hcz39_1 : w5.cell? ⟨gb425, 1, none⟩ = some (.int .i64 a0_1) := (blk_cell BK425.out 1).trans rfl
      have hcz39_2 : w5.cell? ⟨gb425, 2, none⟩ = some (.slice A0_2 l0_2.length c0_2) := (blk_cell BK425.out 2).trans rfl
      have hcz39_3 : w5.cell? ⟨gb425, 3, none⟩ = some (.int .i64 a0_3) := (blk_cell BK425.out 3).trans rfl
      have hcz39_4 : w5.cell? ⟨gb425, 4, none⟩ = some (.slice A0_4 l0_4.length c0_4) := (blk_cell BK425.out 4).trans rfl
      have hcz39_5 : w5.cell? ⟨gb425, 5, none⟩ = some (.slice A0_5 l0_5.length c0_5) := (blk_cell BK425.out 5).trans rfl
      have hfz39_0 := blk_frozen BK425.out 0
      have hfz39_1 := blk_frozen BK425.out 1
      have hfz39_2 := blk_frozen BK425.out 2
      have hfz39_3 := blk_frozen BK425.out 3
      have hfz39_4 := blk_frozen BK425.out 4
      have hfz39_5 := blk_frozen BK425.out 5
      have hcz40_0 : w5.cell? ⟨gb426, 0, none⟩ = some (.int .i64 a1_0) := (blk_cell BK426.out 0).trans rfl
      have hcz40_1 : w5.cell? ⟨gb426, 1, none⟩ = some (.int .i64 a1_1) := (blk_cell BK426.out 1).trans rfl
      have hcz40_2 : w5.cell? ⟨gb426, 2, none⟩ = some (.slice A1_2 l1_2.length c1_2) := (blk_cell BK426.out 2).trans rfl
      have hcz40_3 : w5.cell? ⟨gb426, 3, none⟩ = some (.int .i64 a1_3) := (blk_cell BK426.out 3).trans rfl
      have hcz40_4 : w5.cell? ⟨gb426, 4, none⟩ = some (.slice A1_4 l1_4.length c1_4) := (blk_cell BK426.out 4).trans rfl
      have hcz40_5 : w5.cell? ⟨gb426, 5, none⟩ = some (.slice A1_5 l1_5.length c1_5) := (blk_cell BK426.out 5).trans rfl
      have hfz40_0 := blk_frozen BK426.out 0
      have hfz40_1 := blk_frozen BK426.out 1
      have hfz40_2 := blk_frozen BK426.out 2
      have hfz40_3 := blk_frozen BK426.out 3
      have hfz40_4 := blk_frozen BK426.out 4
      have hfz40_5 := blk_frozen BK426.out 5
      go_wp2
      repeat (go_quiet (fail); try go_wp2)
      go_meet
      case rel => exact ⟨_, (true), (by first | rfl | (simp; done) | (simp [*]; done)), H', ⟨by first | omega | exact Nat.le_refl _⟩, ⟨by (with_reducible repeat (first | refine blk_drewN ?_ _ | refine blk_drew ?_ | refine blk_alloc ?_ _)); exact BK425.out⟩, ⟨by (with_reducible repeat (first | refine blk_drewN ?_ _ | refine blk_drew ?_ | refine blk_alloc ?_ _)); exact BK426.out⟩, ⟨by repeat (first | (with_reducible first | exact HB.out | apply below_alloc | apply pw_below_drewN | apply below_drew1 | refine below_set ?_ GE425.out | refine below_set ?_ GE426.out) | exact HB.out)⟩⟩
  case rest =>
    clear HC3
    try clear c1
    try clear hcv1
    try clear c2
    try clear p2
    try clear hcv2
    try clear c3
    try clear hcv3
    try clear c6
    try clear c6b0
    try clear c6b1
    try clear c7
    try clear c7b0
    try clear c7b1
    try clear c8
    try clear c8b0
    try clear c8b1
    try clear c9
    try clear c9b0
    try clear c9b1
    try clear c10
    try clear c10b0
    try clear c10b1
    try clear c11
    try clear hcv14
    try clear hcv15
    try clear hcv16
    try clear hcv17
    try clear c18
    try clear hcv21
    try clear hcv22
    try clear hcv23
    try clear hcv24
    try clear c25
    try clear hcv28
    try clear hcv29
    try clear c30
    try clear c32
    try clear hcv33
    try clear hcv34
    try clear c35
    try clear c38
    try clear hcz12_0
    try clear hcz12_1
    try clear hcz12_2
    try clear hcz12_3
    try clear hcz12_4
    try clear hcz12_5
    try clear hcz13_0
    try clear hcz13_1
    try clear hcz13_2
    try clear hcz13_3
    try clear hcz13_4
    try clear hcz13_5
    try clear hcz19_0
    try clear hcz19_1
    try clear hcz19_2
    try clear hcz19_3
    try clear hcz19_4
    try clear hcz19_5
    try clear hcz20_0
    try clear hcz20_1
    try clear hcz20_2
    try clear hcz20_3
    try clear hcz20_4
    try clear hcz20_5
    try clear hcz26_0
    try clear hcz26_1
    try clear hcz26_2
    try clear hcz26_3
    try clear hcz26_4
    try clear hcz26_5
    try clear hcz27_0
    try clear hcz27_1
    try clear hcz27_2
    try clear hcz27_3
    try clear hcz27_4
    try clear hcz27_5
    try clear hcz31_0
    try clear hcz31_1
    try clear hcz31_2
    try clear hcz31_3
    try clear hcz31_4
    try clear hcz31_5
    try clear hcz32_0
    try clear hcz32_1
    try clear hcz32_2
    try clear hcz32_3
    try clear hcz32_4
    try clear hcz32_5
    try clear hcz36_0
    try clear hcz36_1
    try clear hcz36_2
    try clear hcz36_3
    try clear hcz36_4
    try clear hcz36_5
    try clear hcz37_0
    try clear hcz37_1
    try clear hcz37_2
    try clear hcz37_3
    try clear hcz37_4
    try clear hcz37_5
    try clear hcz39_0
    try clear hcz39_1
    try clear hcz39_2
    try clear hcz39_3
    try clear hcz39_4
    try clear hcz39_5
    try clear hcz40_0
    try clear hcz40_1
    try clear hcz40_2
    try clear hcz40_3
    try clear hcz40_4
    try clear hcz40_5
    try clear hfz12_0
    try clear hfz12_1
    try clear hfz12_2
    try clear hfz12_3
    try clear hfz12_4
    try clear hfz12_5
    try clear hfz13_0
    try clear hfz13_1
    try clear hfz13_2
    try clear hfz13_3
    try clear hfz13_4
    try clear hfz13_5
    try clear hfz19_0
    try clear hfz19_1
    try clear hfz19_2
    try clear hfz19_3
    try clear hfz19_4
    try clear hfz19_5
    try clear hfz20_0
    try clear hfz20_1
    try clear hfz20_2
    try clear hfz20_3
    try clear hfz20_4
    try clear hfz20_5
    try clear hfz26_0
    try clear hfz26_1
    try clear hfz26_2
    try clear hfz26_3
    try clear hfz26_4
    try clear hfz26_5
    try clear hfz27_0
    try clear hfz27_1
    try clear hfz27_2
    try clear hfz27_3
    try clear hfz27_4
    try clear hfz27_5
    try clear hfz31_0
    try clear hfz31_1
    try clear hfz31_2
    try clear hfz31_3
    try clear hfz31_4
    try clear hfz31_5
    try clear hfz32_0
    try clear hfz32_1
    try clear hfz32_2
    try clear hfz32_3
    try clear hfz32_4
    try clear hfz32_5
    try clear hfz36_0
    try clear hfz36_1
    try clear hfz36_2
    try clear hfz36_3
    try clear hfz36_4
    try clear hfz36_5
    try clear hfz37_0
    try clear hfz37_1
    try clear hfz37_2
    try clear hfz37_3
    try clear hfz37_4
    try clear hfz37_5
    try clear hfz39_0
    try clear hfz39_1
    try clear hfz39_2
    try clear hfz39_3
    try clear hfz39_4
    try clear hfz39_5
    try clear hfz40_0
    try clear hfz40_1
    try clear hfz40_2
    try clear hfz40_3
    try clear hfz40_4
    try clear hfz40_5
    obtain ⟨kq, x51_2, rfl, HA, HJ2, BK425, BK426, HB⟩ := hcut
    cases kq with
    | zero => exact absurd HA.out (by simp [annalsref13_Same.j0])
    | succ kj2 =>
      have H := HA.out
      clear HA
      simp only [annalsref13_Same.j0] at H
      by_cases c41 : x51_2 = true
      · subst c41
        have H1 : (some false) = some r := by rw [if_pos rfl] at H; exact H
        clear H
        have H := H1
        clear H1
        obtain rfl := Option.some.inj H
        go_wp2
        repeat (go_quiet (fail); try go_wp2)
        go_ret
        exact ⟨by first | rfl | (simp [errW_none, errW_some] <;> rfl) | (simp [*, errW_none, errW_some] <;> rfl), by repeat (first | (with_reducible first | exact HB.out | apply below_alloc | apply pw_below_drewN | apply below_drew1 | refine below_set ?_ GE425.out | refine below_set ?_ GE426.out) | exact HB.out)⟩
      · replace c41 := Bool.eq_false_iff.mpr c41
        subst c41
        have H1 : (annalsref13_Same.l0 kj2 (l0_5.length : Int) 0 a0_0 a0_1 l0_2 a0_3 l0_4 l0_5 a1_0 a1_1 l1_2 a1_3 l1_4 l1_5) = some r := by rw [if_neg (show ¬ (false = true) by decide)] at H; exact H
        clear H
        have H := H1
        clear H1
        have H' := Aside0.mk H
        clear H
        have hnb42 := NB425_426.out
        have hnc42 := NB426_425.out
        have hcz43_0 : wc.cell? ⟨gb425, 0, none⟩ = some (.int .i64 a0_0) := (blk_cell BK425.out 0).trans rfl
        have hcz43_1 : wc.cell? ⟨gb425, 1, none⟩ = some (.int .i64 a0_1) := (blk_cell BK425.out 1).trans rfl
        have hcz43_2 : wc.cell? ⟨gb425, 2, none⟩ = some (.slice A0_2 l0_2.length c0_2) := (blk_cell BK425.out 2).trans rfl
        have hcz43_3 : wc.cell? ⟨gb425, 3, none⟩ = some (.int .i64 a0_3) := (blk_cell BK425.out 3).trans rfl
        have hcz43_4 : wc.cell? ⟨gb425, 4, none⟩ = some (.slice A0_4 l0_4.length c0_4) := (blk_cell BK425.out 4).trans rfl
        have hcz43_5 : wc.cell? ⟨gb425, 5, none⟩ = some (.slice A0_5 l0_5.length c0_5) := (blk_cell BK425.out 5).trans rfl
        have hfz43_0 := blk_frozen BK425.out 0
        have hfz43_1 := blk_frozen BK425.out 1
        have hfz43_2 := blk_frozen BK425.out 2
        have hfz43_3 := blk_frozen BK425.out 3
        have hfz43_4 := blk_frozen BK425.out 4
        have hfz43_5 := blk_frozen BK425.out 5
        go_wp2
        repeat (go_quiet (fail); try go_wp2)
        go_loopg [55] kj2 (fun kq v55 w' => ∃ (x55_2 : Int), v55 = .int .i64 x55_2 ∧ Aside0 (annalsref13_Same.l0 kq (l0_5.length : Int) x55_2 a0_0 a0_1 l0_2 a0_3 l0_4 l0_5 a1_0 a1_1 l1_2 a1_3 l1_4 l1_5 = some r) ∧ Aside0 (kq ≤ kj2) ∧ Aside0 (w'.heap[gb425]? = some (.cells #[.int .i64 a0_0, .int .i64 a0_1, (.slice A0_2 l0_2.length c0_2), .int .i64 a0_3, (.slice A0_4 l0_4.length c0_4), (.slice A0_5 l0_5.length c0_5)] 40 (0, 0))) ∧ Aside0 (w'.heap[gb426]? = some (.cells #[.int .i64 a1_0, .int .i64 a1_1, (.slice A1_2 l1_2.length c1_2), .int .i64 a1_3, (.slice A1_4 l1_4.length c1_4), (.slice A1_5 l1_5.length c1_5)] 40 (0, 0))) ∧ Aside0 (Below w.heap.size w w'))
        case atStart => exact ⟨(0), (by first | rfl | (simp; done) | (simp [*]; done)), H', ⟨Nat.le_refl _⟩, ⟨by (with_reducible repeat (first | refine blk_drewN ?_ _ | refine blk_drew ?_ | refine blk_alloc ?_ _)); exact BK425.out⟩, ⟨by (with_reducible repeat (first | refine blk_drewN ?_ _ | refine blk_drew ?_ | refine blk_alloc ?_ _)); exact BK426.out⟩, ⟨by repeat (first | (with_reducible first | exact HB.out | apply below_alloc | apply pw_below_drewN | apply below_drew1 | refine below_set ?_ GE425.out | refine below_set ?_ GE426.out) | exact HB.out)⟩⟩
        case round =>
          clear H'
          try clear c1
          try clear hcv1
          try clear c2
          try clear p2
          try clear hcv2
          try clear c3
          try clear hcv3
          try clear c4
          try clear c6
          try clear c6b0
          try clear c6b1
          try clear c7
          try clear c7b0
          try clear c7b1
          try clear c8
          try clear c8b0
          try clear c8b1
          try clear c9
          try clear c9b0
          try clear c9b1
          try clear c10
          try clear c10b0
          try clear c10b1
          try clear c11
          try clear hcv14
          try clear hcv15
          try clear hcv16
          try clear hcv17
          try clear c18
          try clear hcv21
          try clear hcv22
          try clear hcv23
          try clear hcv24
          try clear c25
          try clear hcv28
          try clear hcv29
          try clear c30
          try clear c32
          try clear hcv33
          try clear hcv34
          try clear c35
          try clear c38
          try clear c41
          try clear c42
          try clear hcz12_0
          try clear hcz12_1
          try clear hcz12_2
          try clear hcz12_3
          try clear hcz12_4
          try clear hcz12_5
          try clear hcz13_0
          try clear hcz13_1
          try clear hcz13_2
          try clear hcz13_3
          try clear hcz13_4
          try clear hcz13_5
          try clear hcz19_0
          try clear hcz19_1
          try clear hcz19_2
          try clear hcz19_3
          try clear hcz19_4
          try clear hcz19_5
          try clear hcz20_0
          try clear hcz20_1
          try clear hcz20_2
          try clear hcz20_3
          try clear hcz20_4
          try clear hcz20_5
          try clear hcz26_0
          try clear hcz26_1
          try clear hcz26_2
          try clear hcz26_3
          try clear hcz26_4
          try clear hcz26_5
          try clear hcz27_0
          try clear hcz27_1
          try clear hcz27_2
          try clear hcz27_3
          try clear hcz27_4
          try clear hcz27_5
          try clear hcz31_0
          try clear hcz31_1
          try clear hcz31_2
          try clear hcz31_3
          try clear hcz31_4
          try clear hcz31_5
          try clear hcz32_0
          try clear hcz32_1
          try clear hcz32_2
          try clear hcz32_3
          try clear hcz32_4
          try clear hcz32_5
          try clear hcz36_0
          try clear hcz36_1
          try clear hcz36_2
          try clear hcz36_3
          try clear hcz36_4
          try clear hcz36_5
          try clear hcz37_0
          try clear hcz37_1
          try clear hcz37_2
          try clear hcz37_3
          try clear hcz37_4
          try clear hcz37_5
          try clear hcz39_0
          try clear hcz39_1
          try clear hcz39_2
          try clear hcz39_3
          try clear hcz39_4
          try clear hcz39_5
          try clear hcz40_0
          try clear hcz40_1
          try clear hcz40_2
          try clear hcz40_3
          try clear hcz40_4
          try clear hcz40_5
          try clear hcz43_0
          try clear hcz43_1
          try clear hcz43_2
          try clear hcz43_3
          try clear hcz43_4
          try clear hcz43_5
          try clear hfz12_0
          try clear hfz12_1
          try clear hfz12_2
          try clear hfz12_3
          try clear hfz12_4
          try clear hfz12_5
          try clear hfz13_0
          try clear hfz13_1
          try clear hfz13_2
          try clear hfz13_3
          try clear hfz13_4
          try clear hfz13_5
          try clear hfz19_0
          try clear hfz19_1
          try clear hfz19_2
          try clear hfz19_3
          try clear hfz19_4
          try clear hfz19_5
          try clear hfz20_0
          try clear hfz20_1
          try clear hfz20_2
          try clear hfz20_3
          try clear hfz20_4
          try clear hfz20_5
          try clear hfz26_0
          try clear hfz26_1
          try clear hfz26_2
          try clear hfz26_3
          try clear hfz26_4
          try clear hfz26_5
          try clear hfz27_0
          try clear hfz27_1
          try clear hfz27_2
          try clear hfz27_3
          try clear hfz27_4
          try clear hfz27_5
          try clear hfz31_0
          try clear hfz31_1
          try clear hfz31_2
          try clear hfz31_3
          try clear hfz31_4
          try clear hfz31_5
          try clear hfz32_0
          try clear hfz32_1
          try clear hfz32_2
          try clear hfz32_3
          try clear hfz32_4
          try clear hfz32_5
          try clear hfz36_0
          try clear hfz36_1
          try clear hfz36_2
          try clear hfz36_3
          try clear hfz36_4
          try clear hfz36_5
          try clear hfz37_0
          try clear hfz37_1
          try clear hfz37_2
          try clear hfz37_3
          try clear hfz37_4
          try clear hfz37_5
          try clear hfz39_0
          try clear hfz39_1
          try clear hfz39_2
          try clear hfz39_3
          try clear hfz39_4
          try clear hfz39_5
          try clear hfz40_0
          try clear hfz40_1
          try clear hfz40_2
          try clear hfz40_3
          try clear hfz40_4
          try clear hfz40_5
          try clear hfz43_0
          try clear hfz43_1
          try clear hfz43_2
          try clear hfz43_3
          try clear hfz43_4
          try clear hfz43_5
          try clear p2
          obtain ⟨x55_2, rfl, HA, HK2, BK425, BK426, HB⟩ := hrel
          cases gk with
          | zero => exact absurd HA.out (by simp [annalsref13_Same.l0])
          | succ k2 =>
            have H := HA.out
            clear HA
            simp only [annalsref13_Same.l0] at H
            by_cases c44 : x55_2 < (l0_5.length : Int)
            · rw [if_pos c44] at H
              have c44b0 : decide (x55_2 < (l0_5.length : Int)) = true := decide_eq_true c44
              clear c44
              by_cases c45 : 0 ≤ x55_2
              · rw [if_pos c45] at H
                have c45b0 : decide (0 ≤ x55_2) = true := decide_eq_true c45
                clear c45
                by_cases c46 : x55_2 < (l0_5.length : Int)
                · rw [if_pos c46] at H
                  have c46b0 : decide (x55_2 < (l0_5.length : Int)) = true := decide_eq_true c46
                  clear c46
                  by_cases c47 : x55_2 < (l1_5.length : Int)
                  · rw [if_pos c47] at H
                    have c47b0 : decide (x55_2 < (l1_5.length : Int)) = true := decide_eq_true c47
                    clear c47
                    by_cases c48 : (strOfNums (rd_L1 l0_5 x55_2)).toList = (strOfNums (rd_L1 l1_5 x55_2)).toList
                    · rw [if_pos c48] at H
                      have c48b0 : ((strOfNums (rd_L1 l0_5 x55_2)).toList == (strOfNums (rd_L1 l1_5 x55_2)).toList) = true := beq_iff_eq.mpr c48
                      have c48b1 : ((strOfNums (rd_L1 l0_5 x55_2)).toList != (strOfNums (rd_L1 l1_5 x55_2)).toList) = false := bne_eq_false_iff_eq.mpr c48
                      clear c48
                      have H' := Aside0.mk H
                      clear H
                      have hnb49 := NB425_426.out
                      have hnc49 := NB426_425.out
                      have hcz50_0 : wr.cell? ⟨gb425, 0, none⟩ = some (.int .i64 a0_0) := (blk_cell BK425.out 0).trans rfl
                      have hcz50_1 : wr.cell? ⟨gb425, 1, none⟩ = some (.int .i64 a0_1) := (blk_cell BK425.out 1).trans rfl
                      have hcz50_2 : wr.cell? ⟨gb425, 2, none⟩ = some (.slice A0_2 l0_2.length c0_2) := (blk_cell BK425.out 2).trans rfl
                      have hcz50_3 : wr.cell? ⟨gb425, 3, none⟩ = some (.int .i64 a0_3) := (blk_cell BK425.out 3).trans rfl
                      have hcz50_4 : wr.cell? ⟨gb425, 4, none⟩ = some (.slice A0_4 l0_4.length c0_4) := (blk_cell BK425.out 4).trans rfl
                      have hcz50_5 : wr.cell? ⟨gb425, 5, none⟩ = some (.slice A0_5 l0_5.length c0_5) := (blk_cell BK425.out 5).trans rfl
                      have hfz50_0 := blk_frozen BK425.out 0
                      have hfz50_1 := blk_frozen BK425.out 1
                      have hfz50_2 := blk_frozen BK425.out 2
                      have hfz50_3 := blk_frozen BK425.out 3
                      have hfz50_4 := blk_frozen BK425.out 4
                      have hfz50_5 := blk_frozen BK425.out 5
                      have p427 : 0 ≤ (x55_2 : Int) := of_decide_eq_true (by first | (with_reducible assumption) | assumption)
                      have q427 : x55_2 < (l0_5.length : Int) := of_decide_eq_true (by first | (with_reducible assumption) | assumption)
                      obtain ⟨ad427, A427_0, c427_0, e427, hx427_0, hl427_0, hi427_0⟩ := at_L1 HR0_5.out x55_2 p427 q427
                      cases e427
                      replace hx427_0 := (HB.out.cell (World.block_lt_of_cell? w _ hx427_0)).trans hx427_0
                      have HR427_0 := Aside0.mk hi427_0
                      have HC427_0 := Aside0.mk hl427_0
                      clear hi427_0 hl427_0
                      replace p427 := eq_true p427
                      replace q427 := eq_true q427
                      have hcv51 := Kd.C_string (P := Tryd.prog) (A := A427_0) (c := c427_0) Tryd.underlying33 Tryd.underlying5 Tryd.underlying9 (Kd.C_below HR427_0.out HB.out)
                      have hcv51d := fun m_ => Kd.C_string (P := Tryd.prog) (A := A427_0) (c := c427_0) Tryd.underlying33 Tryd.underlying5 Tryd.underlying9 (Kd.C_below HR427_0.out (pw_below_drewN HB.out m_))
                      have hcz52_0 : wr.cell? ⟨gb426, 0, none⟩ = some (.int .i64 a1_0) := (blk_cell BK426.out 0).trans rfl
                      have hcz52_1 : wr.cell? ⟨gb426, 1, none⟩ = some (.int .i64 a1_1) := (blk_cell BK426.out 1).trans rfl
                      have hcz52_2 : wr.cell? ⟨gb426, 2, none⟩ = some (.slice A1_2 l1_2.length c1_2) := (blk_cell BK426.out 2).trans rfl
                      have hcz52_3 : wr.cell? ⟨gb426, 3, none⟩ = some (.int .i64 a1_3) := (blk_cell BK426.out 3).trans rfl
                      have hcz52_4 : wr.cell? ⟨gb426, 4, none⟩ = some (.slice A1_4 l1_4.length c1_4) := (blk_cell BK426.out 4).trans rfl
                      have hcz52_5 : wr.cell? ⟨gb426, 5, none⟩ = some (.slice A1_5 l1_5.length c1_5) := (blk_cell BK426.out 5).trans rfl
                      have hfz52_0 := blk_frozen BK426.out 0
                      have hfz52_1 := blk_frozen BK426.out 1
                      have hfz52_2 := blk_frozen BK426.out 2
                      have hfz52_3 := blk_frozen BK426.out 3
                      have hfz52_4 := blk_frozen BK426.out 4
                      have hfz52_5 := blk_frozen BK426.out 5
                      have p428 : 0 ≤ (x55_2 : Int) := of_decide_eq_true (by first | (with_reducible assumption) | assumption)
                      have q428 : x55_2 < (l1_5.length : Int) := of_decide_eq_true (by first | (with_reducible assumption) | assumption)
                      obtain ⟨ad428, A428_0, c428_0, e428, hx428_0, hl428_0, hi428_0⟩ := at_L1 HR1_5.out x55_2 p428 q428
                      cases e428
                      replace hx428_0 := (HB.out.cell (World.block_lt_of_cell? w _ hx428_0)).trans hx428_0
                      have HR428_0 := Aside0.mk hi428_0
                      have HC428_0 := Aside0.mk hl428_0
                      clear hi428_0 hl428_0
                      replace p428 := eq_true p428
                      replace q428 := eq_true q428
                      have hcv53 := Kd.C_string (P := Tryd.prog) (A := A428_0) (c := c428_0) Tryd.underlying33 Tryd.underlying5 Tryd.underlying9 (Kd.C_below HR428_0.out HB.out)
                      have hcv53d := fun m_ => Kd.C_string (P := Tryd.prog) (A := A428_0) (c := c428_0) Tryd.underlying33 Tryd.underlying5 Tryd.underlying9 (Kd.C_below HR428_0.out (pw_below_drewN HB.out m_))
                      go_wp2
                      repeat (go_quiet (fail); try go_wp2)
                      go_roundg k2
                      case measure => have := HJ2.out; have := HK2.out; omega
                      case rel => exact ⟨(wrap64 (x55_2 + 1)), (by first | rfl | (simp; done) | (simp [*]; done)), H', ⟨by have := HJ2.out; have := HK2.out; omega⟩, ⟨by (with_reducible repeat (first | refine blk_drewN ?_ _ | refine blk_drew ?_ | refine blk_alloc ?_ _)); exact BK425.out⟩, ⟨by (with_reducible repeat (first | refine blk_drewN ?_ _ | refine blk_drew ?_ | refine blk_alloc ?_ _)); exact BK426.out⟩, ⟨by repeat (first | (with_reducible first | exact HB.out | apply below_alloc | apply pw_below_drewN | apply below_drew1 | refine below_set ?_ GE425.out | refine below_set ?_ GE426.out) | exact HB.out)⟩⟩
                    · rw [if_neg c48] at H
                      have c48b0 : ((strOfNums (rd_L1 l0_5 x55_2)).toList == (strOfNums (rd_L1 l1_5 x55_2)).toList) = false := beq_eq_false_iff_ne.mpr c48
                      have c48b1 : ((strOfNums (rd_L1 l0_5 x55_2)).toList != (strOfNums (rd_L1 l1_5 x55_2)).toList) = true := bne_iff_ne.mpr c48
                      obtain rfl := Option.some.inj H
                      have hnb54 := NB425_426.out
                      have hnc54 := NB426_425.out
                      have hcz55_0 : wr.cell? ⟨gb425, 0, none⟩ = some (.int .i64 a0_0) := (blk_cell BK425.out 0).trans rfl
                      have hcz55_1 : wr.cell? ⟨gb425, 1, none⟩ = some (.int .i64 a0_1) := (blk_cell BK425.out 1).trans rfl
                      have hcz55_2 : wr.cell? ⟨gb425, 2, none⟩ = some (.slice A0_2 l0_2.length c0_2) := (blk_cell BK425.out 2).trans rfl
                      have hcz55_3 : wr.cell? ⟨gb425, 3, none⟩ = some (.int .i64 a0_3) := (blk_cell BK425.out 3).trans rfl
                      have hcz55_4 : wr.cell? ⟨gb425, 4, none⟩ = some (.slice A0_4 l0_4.length c0_4) := (blk_cell BK425.out 4).trans rfl
                      have hcz55_5 : wr.cell? ⟨gb425, 5, none⟩ = some (.slice A0_5 l0_5.length c0_5) := (blk_cell BK425.out 5).trans rfl
                      have hfz55_0 := blk_frozen BK425.out 0
                      have hfz55_1 := blk_frozen BK425.out 1
                      have hfz55_2 := blk_frozen BK425.out 2
                      have hfz55_3 := blk_frozen BK425.out 3
                      have hfz55_4 := blk_frozen BK425.out 4
                      have hfz55_5 := blk_frozen BK425.out 5
                      have p427 : 0 ≤ (x55_2 : Int) := of_decide_eq_true (by first | (with_reducible assumption) | assumption)
                      have q427 : x55_2 < (l0_5.length : Int) := of_decide_eq_true (by first | (with_reducible assumption) | assumption)
                      obtain ⟨ad427, A427_0, c427_0, e427, hx427_0, hl427_0, hi427_0⟩ := at_L1 HR0_5.out x55_2 p427 q427
                      cases e427
                      replace hx427_0 := (HB.out.cell (World.block_lt_of_cell? w _ hx427_0)).trans hx427_0
                      have HR427_0 := Aside0.mk hi427_0
                      have HC427_0 := Aside0.mk hl427_0
                      clear hi427_0 hl427_0
                      replace p427 := eq_true p427
                      replace q427 := eq_true q427
                      have hcv56 := Kd.C_string (P := Tryd.prog) (A := A427_0) (c := c427_0) Tryd.underlying33 Tryd.underlying5 Tryd.underlying9 (Kd.C_below HR427_0.out HB.out)
                      have hcv56d := fun m_ => Kd.C_string (P := Tryd.prog) (A := A427_0) (c := c427_0) Tryd.underlying33 Tryd.underlying5 Tryd.underlying9 (Kd.C_below HR427_0.out (pw_below_drewN HB.out m_))
                      have hcz57_0 : wr.cell? ⟨gb426, 0, none⟩ = some (.int .i64 a1_0) := (blk_cell BK426.out 0).trans rfl
                      have hcz57_1 : wr.cell? ⟨gb426, 1, none⟩ = some (.int .i64 a1_1) := (blk_cell BK426.out 1).trans rfl
                      have hcz57_2 : wr.cell? ⟨gb426, 2, none⟩ = some (.slice A1_2 l1_2.length c1_2) := (blk_cell BK426.out 2).trans rfl
                      have hcz57_3 : wr.cell? ⟨gb426, 3, none⟩ = some (.int .i64 a1_3) := (blk_cell BK426.out 3).trans rfl
                      have hcz57_4 : wr.cell? ⟨gb426, 4, none⟩ = some (.slice A1_4 l1_4.length c1_4) := (blk_cell BK426.out 4).trans rfl
                      have hcz57_5 : wr.cell? ⟨gb426, 5, none⟩ = some (.slice A1_5 l1_5.length c1_5) := (blk_cell BK426.out 5).trans rfl
                      have hfz57_0 := blk_frozen BK426.out 0
                      have hfz57_1 := blk_frozen BK426.out 1
                      have hfz57_2 := blk_frozen BK426.out 2
                      have hfz57_3 := blk_frozen BK426.out 3
                      have hfz57_4 := blk_frozen BK426.out 4
                      have hfz57_5 := blk_frozen BK426.out 5
                      have p428 : 0 ≤ (x55_2 : Int) := of_decide_eq_true (by first | (with_reducible assumption) | assumption)
                      have q428 : x55_2 < (l1_5.length : Int) := of_decide_eq_true (by first | (with_reducible assumption) | assumption)
                      obtain ⟨ad428, A428_0, c428_0, e428, hx428_0, hl428_0, hi428_0⟩ := at_L1 HR1_5.out x55_2 p428 q428
                      cases e428
                      replace hx428_0 := (HB.out.cell (World.block_lt_of_cell? w _ hx428_0)).trans hx428_0
                      have HR428_0 := Aside0.mk hi428_0
                      have HC428_0 := Aside0.mk hl428_0
                      clear hi428_0 hl428_0
                      replace p428 := eq_true p428
                      replace q428 := eq_true q428
                      have hcv58 := Kd.C_string (P := Tryd.prog) (A := A428_0) (c := c428_0) Tryd.underlying33 Tryd.underlying5 Tryd.underlying9 (Kd.C_below HR428_0.out HB.out)
                      have hcv58d := fun m_ => Kd.C_string (P := Tryd.prog) (A := A428_0) (c := c428_0) Tryd.underlying33 Tryd.underlying5 Tryd.underlying9 (Kd.C_below HR428_0.out (pw_below_drewN HB.out m_))
                      go_wp2
                      repeat (go_quiet (fail); try go_wp2)
                      go_ret
                      exact ⟨by first | rfl | (simp [errW_none, errW_some] <;> rfl) | (simp [*, errW_none, errW_some] <;> rfl), by repeat (first | (with_reducible first | exact HB.out | apply below_alloc | apply pw_below_drewN | apply below_drew1 | refine below_set ?_ GE425.out | refine below_set ?_ GE426.out) | exact HB.out)⟩
                  · rw [if_neg c47] at H
                    exact absurd H (by simp)
                · rw [if_neg c46] at H
                  exact absurd H (by simp)
              · rw [if_neg c45] at H
                exact absurd H (by simp)
            · rw [if_neg c44] at H
              have c44b0 : decide (x55_2 < (l0_5.length : Int)) = false := decide_eq_false c44
              clear c44
              obtain rfl := Option.some.inj H
              go_wp2
              repeat (go_quiet (fail); try go_wp2)
              go_ret
              exact ⟨by first | rfl | (simp [errW_none, errW_some] <;> rfl) | (simp [*, errW_none, errW_some] <;> rfl), by repeat (first | (with_reducible first | exact HB.out | apply below_alloc | apply pw_below_drewN | apply below_drew1 | refine below_set ?_ GE425.out | refine below_set ?_ GE426.out) | exact HB.out)⟩
end Go.Proofs.YteamljekjncbfaaDoor.P
end
