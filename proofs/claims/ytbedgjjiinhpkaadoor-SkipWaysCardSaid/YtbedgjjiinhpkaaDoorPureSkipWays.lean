/-
  SkipWays on numbers: links, the next one, ways and bounds are the reference's.
-/
import Derived.Test.YtbedgjjiinhpkaaDoorFannalslaw14SkipWays
import Derived.Test.YtbedgjjiinhpkaaDoorPureSkip
set_option linter.unusedVariables false
set_option linter.unusedSimpArgs false
namespace Go.Proofs.YtbedgjjiinhpkaaDoor.Pure
open Go.RowKit Go.Proofs.YtbedgjjiinhpkaaDoor.P Go.Proofs.YtbedgjjiinhpkaaDoorW.PrintWords Go.Proofs.YtbedgjjiinhpkaaDoorW.PrintLast Go.Proofs.YtbedgjjiinhpkaaDoorW.PrintMore

theorem wf_i64 {a : Int} (h : (Lit.int .i64 a).wf = true) : -9223372036854775808 ≤ a ∧ a ≤ 9223372036854775807 := by
  simp only [Lit.wf, IntKind.min, IntKind.max, IntKind.signed, IntKind.bits, Bool.and_eq_true, decide_eq_true_eq, if_true] at h
  omega

theorem ways_links (a : Int) (h : a ≤ 9223372036854775807) (k : Nat) (hk : 70 < k) : ∃ l : List Int, skip_Links.f k a = some l ∧ annalsref14_Links.f k a = some l ∧ l.length < 70 := by
  by_cases h0 : a ≤ 0
  · exact ⟨[], links_neg a h0 k, rlinks_neg a h0 k (by omega), by simp⟩
  · obtain ⟨f, rfl⟩ := Int.eq_ofNat_of_zero_le (show 0 ≤ a by omega)
    have hv := (vz_spec f (by omega) (by omega)).1
    exact ⟨links f, links_f f (by omega) (by omega) k hk, rlinks_f f (by omega) (by omega) k hk, by rw [links_length]; omega⟩

theorem ways_next (a t : Int) (h : a ≤ 9223372036854775807) (k : Nat) (hk : 70 < k) : ∃ e : Int, skip_Next.f k a t = some e ∧ annalsref14_Next.f k a t = some e := by
  by_cases hc : t < 0 ∨ a ≤ t
  · exact ⟨a, next_no a t hc k (by omega), rnext_no a t hc (by omega) k hk⟩
  · obtain ⟨f, rfl⟩ := Int.eq_ofNat_of_zero_le (show 0 ≤ a by omega)
    obtain ⟨t, rfl⟩ := Int.eq_ofNat_of_zero_le (show 0 ≤ t by omega)
    exact ⟨nxt f t, next_yes f t (by omega) (by omega) k (by omega), rnext_yes f t (by omega) (by omega) k hk⟩

theorem ways_way (a t : Int) (k : Nat) (hk : 1048700 < k) : ∃ l : List Int, skip_Way.f k a t = some l ∧ annalsref14_Way.f k a t = some l ∧ l.length < 1048600 := by
  by_cases hf : 1048576 < a
  · exact ⟨[], by unfold skip_Way.f; rw [if_pos (by omega)], rway_far a t hf k (by omega), by simp⟩
  · by_cases hc : t < 0 ∨ a ≤ t
    · exact ⟨[], way_no a t hc k (by omega), rway_no a t hc k (by omega), by simp⟩
    · obtain ⟨f, rfl⟩ := Int.eq_ofNat_of_zero_le (show 0 ≤ a by omega)
      obtain ⟨t, rfl⟩ := Int.eq_ofNat_of_zero_le (show 0 ≤ t by omega)
      exact ⟨wayL f f t, way_yes f t (by omega) k (by omega), rway_yes f t (by omega) (by omega) k hk, by have := wayL_length f f t; omega⟩

theorem SkipWays : annalslaw14_SkipWays.Pure := by
  intro a0 a1 a2 w0 w1 w2
  have b0 := wf_i64 w0
  have b2 := wf_i64 w2
  refine ⟨1050000, ?_⟩
  obtain ⟨l, l1, l2, l3⟩ := ways_links a0 b0.2 1050000 (by omega)
  obtain ⟨e, e1, e2⟩ := ways_next a0 a1 b0.2 1050000 (by omega)
  obtain ⟨v, v1, v2, v3⟩ := ways_way a0 a1 1050000 (by omega)
  have m1 := most_f a2 (by omega) (by omega)
  have m2 := rmost_f a2 (by omega) 1050000 (by omega)
  have ha := awake_f 1050000 (by omega)
  have q1 := equal_same l (by omega) 1050000 (by omega)
  have q2 := equal_same v (by omega) 1050000 (by omega)
  unfold annalslaw14_SkipWays.f
  generalize (1050000 : Nat) = k at *
  rw [l1, l2, e1, e2, v1, v2, m1, m2, ha]
  simp only [Option.bind_some]
  rw [q1]
  simp only [Option.bind_some]
  rw [if_pos trivial, if_pos trivial, q2]
  simp only [Option.bind_some]
  rw [if_pos trivial, if_pos trivial]

end Go.Proofs.YtbedgjjiinhpkaaDoor.Pure
