/-
  SeekRight walked.
-/
import Derived.Test.YtbedgjjiinhpkaaSeekD
set_option linter.unusedVariables false
set_option linter.unusedSimpArgs false
namespace Go.Proofs.Ytbedgjjiinhpkaa.P
open Go.RowKit Go.Proofs.YtbedgjjiinhpkaaW.PrintWords Go.Proofs.YtbedgjjiinhpkaaW.PrintLast Go.Proofs.YtbedgjjiinhpkaaW.PrintMore
attribute [local go_sem] max2_int min2_int max_two min_two

set_option maxHeartbeats 4000000 in
set_option maxRecDepth 100000 in
theorem right_calls (A0 : Option Addr) (c0 : Nat) (l0 : List Int) (t : Int) (w : World) (hr0 : Kd.C (Kd.int .i64) w A0 l0.length l0) (hc0 : l0.length ≤ c0) :
    Calls Try.prog 4 #[.slice A0 l0.length c0, .int .i64 t] w fun e w' => e = .returned (.bool true) ∧ Below w.heap.size w w' := by
  obtain ⟨j, hj⟩ : ∃ j : Int, (if 300 < (l0.length : Int) then 300 else (l0.length : Int)) = j := ⟨_, rfl⟩
  have hj3 : j ≤ 300 := by rw [← hj]; split <;> omega
  have hj0 : 0 ≤ j := by rw [← hj]; split <;> omega
  have hjl : j ≤ (l0.length : Int) := by rw [← hj]; split <;> omega
  have hj0b : decide (0 ≤ j) = true := decide_eq_true hj0
  have hjlb : decide (j ≤ (l0.length : Int)) = true := decide_eq_true hjl
  obtain ⟨i0, hi0, _, hsz0, _⟩ := info_parts info3
  obtain ⟨hcut, hA, hC⟩ := print_take_of (P := Try.prog) (Value.int .i64) 0 22 3 .i64 Try.underlying22 hi0 hsz0 A0 c0 l0 j hj0 hjl hc0
  obtain ⟨ts, hts⟩ : ∃ ts, ts = l0.take j.toNat := ⟨_, rfl⟩
  have htl : ts.length ≤ 300 := by rw [hts, List.length_take]; omega
  have HR := Aside0.mk (Kd.C_of_reads (h1 := fun _ => rfl) (hA _ (Kd.reads_of_C hr0)))
  rw [← hts] at hcut hC HR
  have HC := Aside0.mk hC
  clear hA hC hi0 hsz0 hr0 hc0
  have HTS := Aside0.mk hts
  clear hts
  go_enter Try.func4, Try.ntmps4
  go_wp2_with fail
  refine (clone_any A0 c0 ts w HR.out htl).mono ?_
  rintro e1 w1 ⟨v1, rfl, ho1, hB1⟩
  have HO1 := Aside0.mk ho1
  have HB1 := Aside0.mk hB1
  clear ho1 hB1
  go_wp2_with fail
  refine (sort_any w.heap.size v1 ts w w1 HO1.out HB1.out (Nat.le_refl _) htl).mono ?_
  rintro e2 w2 ⟨rfl, ho2, hB2⟩
  obtain ⟨zs, hzs⟩ : ∃ zs, zs = inOrder ts := ⟨_, rfl⟩
  have hzl : zs.length = ts.length := by rw [hzs, inOrder_length]
  rw [← hzs, ← hzl] at ho2
  have hR2 : Kd.R (Kd.int .i64) 3 w2 w.heap.size (fun _ => True) v1 zs := Kd.R_of_own ho2 (fun _ _ => trivial)
  obtain ⟨B, c, rfl, hc, hZ⟩ := Kd.R_reads hR2
  have HZ := Aside0.mk hZ
  have HB2 := Aside0.mk hB2
  have HZC := Aside0.mk hc
  have HZS := Aside0.mk hzs
  rw [← hzl] at htl
  have hz63 : (zs.length : Int) ≤ 300 := by omega
  clear ho2 hR2 hZ hB2 hc hzs HO1 HB1 hzl
  go_wp2_with fail
  go_loopw [5, 18] (fun v5 v18 wq => ∃ k : Nat, k ≤ zs.length ∧ v5 = .int .i64 (lastLe zs t k) ∧ v18 = .int .i64 (k : Int) ∧ Aside0 (Below w2.heap.size w2 wq)) (fun _ v18 _ => zs.length - (intOf v18).toNat)
  case atStart => exact ⟨0, by omega, rfl, rfl, ⟨Below.refl _ _⟩⟩
  case round =>
    obtain ⟨k, hk, rfl, rfl, HBk⟩ := hrel
    by_cases hkz : k < zs.length
    · have hd : decide ((k : Int) < (zs.length : Int)) = true := by simp; omega
      obtain ⟨ad, rfl, hx0⟩ := Kd.at_int HZ.out (k : Int) (by omega) (by omega)
      have hx := (HBk.out.cell (World.block_lt_of_cell? w2 _ hx0)).trans hx0
      clear hx0
      rw [Int.toNat_natCast] at hx
      by_cases hle : rd zs (k : Int) ≤ t
      · have hd2 : decide (rd zs (k : Int) ≤ t) = true := by simp; omega
        go_wp2_with fail
        exact ⟨⟨k + 1, by omega, by simp only [lastLe]; rw [if_pos hle], by go_num, HBk⟩, by simp only [intOf]; omega⟩
      · have hd2 : decide (rd zs (k : Int) ≤ t) = false := by simp; omega
        go_wp2_with fail
        exact ⟨⟨k + 1, by omega, by simp only [lastLe]; rw [if_neg hle], by go_num, HBk⟩, by simp only [intOf]; omega⟩
    · obtain rfl : k = zs.length := by omega
      have hd : decide ((zs.length : Int) < (zs.length : Int)) = false := by simp
      go_wp2_with fail
      have hf : seek_Find.f zs t = some (lastLe zs t zs.length) := by unfold seek_Find.f; rw [if_pos (by omega), HZS.out, right_found]
      refine (seek_Find.calls B c zs t _ _ (Kd.C_below HZ.out HBk.out) HZC.out hf).mono ?_
      rintro e3 w3 ⟨rfl, hB3⟩
      have HB3 := Aside0.mk (below_step HBk.out hB3)
      clear hB3 HBk
      obtain ⟨ps, hps⟩ : ∃ ps, ps = (lookRun zs t).1 := ⟨_, rfl⟩
      have hpl : ps.length ≤ 11 := by rw [hps]; exact lookRun_len zs t htl
      have hpb : decide ((ps.length : Int) ≤ 11) = true := by simp; omega
      have hp : seek_Probes.f zs t = some ps := by unfold seek_Probes.f; rw [if_pos (by omega), hps]
      have HP := Aside0.mk hp
      clear hps hf hp
      go_wp2_with fail
      refine (seek_Probes.calls B c zs t _ _ (Kd.C_below HZ.out HB3.out) HZC.out HP.out).mono ?_
      rintro e4 w4 ⟨v4, rfl, hR4, hB4⟩
      obtain ⟨A4, c4, rfl⟩ := Kd.R_slice hR4
      have HB4 := Aside0.mk (below_step HB3.out hB4)
      clear hB4 HB3 hR4
      go_wp2_with fail
      refine (annalslaw20_awake.calls 20 true _ (Pure.awake_f 20 (by omega))).mono ?_
      rintro e5 w5 ⟨rfl, hB5⟩
      have HB5 := Aside0.mk (below_step HB4.out hB5)
      clear hB5 HB4
      go_wp2_with fail
      go_ret
      exact ⟨rfl, below_step HB2.out HB5.out⟩

/-- THE ROW's WALK. -/
theorem annalslaw20_SeekRight.walk (a0 : Option Addr) (len0 cap0 : Nat) (z0 : List Int) (a1 : Int) (w : World) (w0 : (a0 = none ∧ len0 = 0 ∧ cap0 = 0 ∧ z0 = []) ∨ ∃ x, a0 = some x ∧ len0 ≤ cap0 ∧ cap0 ≤ maxLen ∧ z0.length = cap0 ∧ (∀ i, i < z0.length → w.cell? (x.add i) = some (.int .i64 (z0.getD i 0))) ∧ ∀ n ∈ z0, (Lit.int .i64 n).wf = true) (y0 : len0 * 8 ≤ 140737488351232) (w1 : (Lit.int .i64 a1).wf = true) :
    Calls Try.prog 4 #[.slice a0 len0 cap0, .int .i64 a1] w fun e w' => e = .returned (.bool true) ∧ Below w.heap.size w w' := by
  obtain ⟨l0, rfl, hr0, hm0, hw0, hc0⟩ := ReadsInt.ofRowC w0
  exact right_calls _ _ l0 a1 w (Kd.C_of_reads (d := (0 : Int)) (h1 := fun _ => rfl) hr0) hc0

end Go.Proofs.Ytbedgjjiinhpkaa.P
