/-
  seek.run walked once, for whatever function looks.
-/
import Derived.Test.YtbedgjjiinhpkaaSeekA
set_option linter.unusedVariables false
set_option linter.unusedSimpArgs false
namespace Go.Proofs.Ytbedgjjiinhpkaa.P
open Go.RowKit Go.Proofs.YtbedgjjiinhpkaaW.PrintWords Go.Proofs.YtbedgjjiinhpkaaW.PrintLast Go.Proofs.YtbedgjjiinhpkaaW.PrintMore

/-- The search's loop on numbers: the looks, and what is found. -/
def lookGo (ts : List Int) (t : Int) : Nat → Int → Int → List Int → List Int × Int
  | 0, low, _, acc => (acc, low)
  | k + 1, low, high, acc =>
    if low < high then
      if t < rd ts (low + (high - low + 1) / 2) then lookGo ts t k low (low + (high - low + 1) / 2 - 1) (acc ++ [low + (high - low + 1) / 2])
      else lookGo ts t k (low + (high - low + 1) / 2) high (acc ++ [low + (high - low + 1) / 2])
    else (acc, low)

/-- What run looks at, and what it answers. -/
def lookRun (ts : List Int) (t : Int) : List Int × Int :=
  if ts.length = 0 then ([], -1)
  else if t < rd ts 0 then ([0], -1)
  else lookGo ts t ts.length 0 (ts.length - 1) [0]

/-- What is asked of the function that is handed to run. -/
structure Look (w0 : World) (F : Nat) (caps : Array Value) (I : World → List Int → Prop) : Prop where
  enter : ∀ (args : Array Value) (W : World), (callFunc F args).run Try.prog W = .ok (.enter F args) W
  call : ∀ (l : List Int) (e : Int) (W : World), I W l → Below w0.heap.size w0 W → l.length < 17592186044416 →
    Calls Try.prog F (#[.int .i64 e] ++ caps) W fun e' W' => e' = .returned (.tuple #[]) ∧ I W' (l ++ [e]) ∧ Below w0.heap.size w0 W' ∧ KeepTy [22, 3] W W'
  alloc : ∀ (W : World) (l : List Int) (cs : Array Value), I W l → I (W.alloc (.cells cs 37)) l
  keep : ∀ (W W' : World) (l : List Int) (g : Nat) (cs : Array Value), I W l → W.heap[g]? = some (.cells cs 37 (0, 0)) → KeepBut W W' g none → I W' l

theorem IsS37.keepTy {w0 W W1 : World} {g : Nat} {f0 f1 : Int} (h : IsS37 w0 W g f0 f1) (hk : KeepTy [22, 3] W W1) : IsS37 w0 W1 g f0 f1 :=
  ⟨hk _ _ _ _ h.1 (by decide), h.2⟩

theorem next_any (g : Nat) (low high : Int) (w0 w : World) (hI : IsS37 w0 w g low high) (hB : Below w0.heap.size w0 w) (h0 : 0 ≤ low) (h1 : low ≤ high) (h2 : high < 1000000) :
    Calls Try.prog 18 #[.pointer (some ⟨g, 0, none⟩)] w fun e w' => e = .returned (.tuple #[.int .i64 (low + (high - low + 1) / 2), .bool (decide (low < high))]) ∧ IsS37 w0 w' g low high ∧ Below w0.heap.size w0 w' ∧ KeepBut w w' g none := by
  refine seek_search_next.calls g low high _ _ _ _ w0 w hI hB ?_
  unfold seek_search_next.f
  have e1 : wrap64 (high - low) = high - low := by unfold wrap64; omega
  have e2 : wrap64 (high - low + 1) = high - low + 1 := by unfold wrap64; omega
  have e3 : Int.tdiv (high - low + 1) 2 = (high - low + 1) / 2 := Int.tdiv_eq_ediv_of_nonneg (by omega)
  have e4 : wrap64 ((high - low + 1) / 2) = (high - low + 1) / 2 := by unfold wrap64; omega
  have e5 : wrap64 (low + (high - low + 1) / 2) = low + (high - low + 1) / 2 := by unfold wrap64; omega
  rw [e1, e2, e3, e4, e5]

theorem told_any (g : Nat) (low high at_ : Int) (b : Bool) (w0 w : World) (hI : IsS37 w0 w g low high) (hB : Below w0.heap.size w0 w) (h0 : 0 ≤ at_) (h2 : at_ < 1000000) :
    Calls Try.prog 19 #[.pointer (some ⟨g, 0, none⟩), .int .i64 at_, .bool b] w fun e w' => e = .returned (.tuple #[]) ∧ IsS37 w0 w' g (if b then low else at_) (if b then at_ - 1 else high) ∧ Below w0.heap.size w0 w' ∧ KeepBut w w' g none := by
  refine seek_search_told.calls g low high at_ b _ _ w0 w hI hB ?_
  unfold seek_search_told.f
  have e1 : wrap64 (at_ - 1) = at_ - 1 := by unfold wrap64; omega
  rw [e1]
  cases b <;> rfl

set_option maxHeartbeats 1600000 in
set_option maxRecDepth 100000 in
theorem run_some (F : Nat) (caps : Array Value) (I : World → List Int → Prop) (A0 : Option Addr) (c0 : Nat) (ts : List Int) (t : Int) (w0 w : World) (hL : Look w0 F caps I)
    (hr : Kd.C (Kd.int .i64) w0 A0 ts.length ts) (hc : ts.length ≤ c0) (hb : ts.length < 1000000) (hn : 0 < ts.length) (ht : ¬ t < rd ts 0) (hI : I w []) (hB : Below w0.heap.size w0 w) :
    Calls Try.prog 13 #[.slice A0 ts.length c0, .int .i64 t, .func (.func F) #[] caps] w fun e w' => e = .returned (.int .i64 (lookRun ts t).2) ∧ I w' (lookRun ts t).1 ∧ Below w0.heap.size w0 w' := by
  have H0 : Hid (lookRun ts t = lookGo ts t ts.length 0 (ts.length - 1) [0]) := by unfold lookRun; rw [if_neg (by omega), if_neg ht]; rfl
  have HR := Aside0.mk hr
  have HL := Aside0.mk hL
  have HI := Aside0.mk hI
  have HB := Aside0.mk hB
  clear hr hL hI hB
  have n0 : ((ts.length : Int) == 0) = false := by simp; intro h; simp [h] at hn
  obtain ⟨ad, rfl, hx0⟩ := Kd.at_int HR.out 0 (by omega) (by omega)
  have hp0 : (0 : Int) < (ts.length : Int) := by omega
  have ht' : decide (t < rd ts 0) = false := by simp; omega
  have hE := HL.out.enter
  go_enter Try.func13, Try.ntmps13
  go_wp2_with fail
  refine (HL.out.call [] 0 _ HI.out HB.out (by simp)).mono ?_
  rintro e1 w1 ⟨rfl, hI1, hB1, hK1⟩
  have HI1 := Aside0.mk hI1
  have HB1 := Aside0.mk hB1
  clear hI1 hB1 hK1 HI HB
  have hx1 := (HB1.out.cell (World.block_lt_of_cell? w0 _ hx0)).trans hx0
  clear hx0
  rw [show ad.add (Int.toNat 0) = ad from by simp [Addr.add]] at hx1
  go_wp2_with fail
  have hs := IsS37.new w0 w1 0 ((ts.length : Int) - 1) HB1.out
  refine (next_any w1.heap.size 0 ((ts.length : Int) - 1) w0 _ hs (below_alloc HB1.out _) (by omega) (by omega) (by omega)).mono ?_
  rintro e2 w2 ⟨rfl, hs2, hB2, hK2⟩
  have hI2 := HL.out.keep _ w2 _ w1.heap.size _ (HL.out.alloc _ _ _ HI1.out) (heap_alloc_new w1 _) hK2
  have HI2 := Aside0.mk hI2
  have HB2 := Aside0.mk hB2
  have HS2 := Aside0.mk hs2
  have HN : Aside0 (w0.heap.size ≤ w1.heap.size) := Aside0.mk HB1.out.size
  obtain ⟨g, hg⟩ : ∃ g, g = w1.heap.size := ⟨_, rfl⟩
  rw [← hg] at HS2
  rw [← hg]
  clear hs hI2 hB2 hs2 hK2 HI1 HB1 hx1 hg
  go_wp2_with fail
  go_loopg [8, 9] (ts.length) (fun kq v8 v9 w' => ∃ (low high : Int) (acc : List Int), v8 = .int .i64 (low + (high - low + 1) / 2) ∧ v9 = .bool (decide (low < high)) ∧ Aside0 (0 ≤ low ∧ low ≤ high ∧ high < ts.length ∧ high - low ≤ kq) ∧ Aside0 (lookGo ts t kq low high acc = lookRun ts t) ∧ Aside0 (I w' acc) ∧ Aside0 (IsS37 w0 w' g low high) ∧ Aside0 (Below w0.heap.size w0 w') ∧ Aside0 (acc.length + kq ≤ 1000001))
  case atStart => exact ⟨0, (ts.length : Int) - 1, [0], (by first | rfl | (simp; done)), (by first | rfl | (simp; done)), ⟨by omega⟩, ⟨H0.out.symm⟩, HI2, HS2, HB2, ⟨by simp; omega⟩⟩
  case round =>
    obtain ⟨low, high, acc, rfl, rfl, HV, HG, HI, HS, HB, HA⟩ := hrel
    obtain ⟨hv0, hv1, hv2, hv3⟩ := HV.out
    have hA := HA.out
    obtain ⟨m, hm⟩ : ∃ m, m = low + (high - low + 1) / 2 := ⟨_, rfl⟩
    rw [← hm]
    have HM := Aside0.mk hm
    by_cases hlt : low < high
    · have hd : decide (low < high) = true := by simpa using hlt
      have hm0 : low < m := by omega
      have hm1 : m ≤ high := by omega
      have hm2 : 0 ≤ m := by omega
      have hm3 : m < (ts.length : Int) := by omega
      clear hm
      cases gk with
      | zero => omega
      | succ k1 =>
        have hG := HG.out
        unfold lookGo at hG
        rw [if_pos hlt, ← HM.out] at hG
        have HG1 := Aside0.mk hG
        clear hG HG
        obtain ⟨ad2, e2, hx2⟩ := Kd.at_int HR.out m hm2 hm3
        obtain rfl : ad = ad2 := by injection e2
        clear e2
        have HK0 := Aside0.mk hv3
        have HK1 := Aside0.mk hA
        clear hv3 hA hlt
        go_wp2_with fail
        refine (HL.out.call acc m _ HI.out HB.out (by have := HK1.out; omega)).mono ?_
        rintro e3 w3 ⟨rfl, hI3, hB3, hK3⟩
        have HI3 := Aside0.mk hI3
        have HB3 := Aside0.mk hB3
        have HS3 := Aside0.mk (IsS37.keepTy HS.out hK3)
        clear hI3 hB3 hK3 HI HB HS
        have hx3 := (HB3.out.cell (World.block_lt_of_cell? w0 _ hx2)).trans hx2
        clear hx2
        go_wp2_with fail
        refine (told_any g low high m _ w0 w3 HS3.out HB3.out hm2 (by omega)).mono ?_
        rintro e4 w4 ⟨rfl, hs4, hB4, hK4⟩
        have hI4 := HL.out.keep _ w4 _ g _ HI3.out HS3.out.1 hK4
        have HGe : Hid (w0.heap.size ≤ g) := HS3.out.2
        obtain ⟨l2, h2, hl2, hh2, hb1, hb2, hb3, hb4, hG2⟩ : ∃ l2 h2 : Int, l2 = (if decide (t < rd ts m) = true then low else m) ∧ h2 = (if decide (t < rd ts m) = true then m - 1 else high) ∧ 0 ≤ l2 ∧ l2 ≤ h2 ∧ h2 < ts.length ∧ h2 - l2 ≤ k1 ∧ lookGo ts t k1 l2 h2 (acc ++ [m]) = lookRun ts t := by
          have hG := HG1.out
          have hK := HK0.out
          by_cases hb : t < rd ts m
          · rw [if_pos hb] at hG
            exact ⟨low, m - 1, by simp [hb], by simp [hb], by omega, by omega, by omega, by omega, hG⟩
          · rw [if_neg hb] at hG
            exact ⟨m, high, by simp [hb], by simp [hb], by omega, by omega, by omega, by omega, hG⟩
        rw [← hl2, ← hh2] at hs4
        have HI4 := Aside0.mk hI4
        have HB4 := Aside0.mk hB4
        have HS4 := Aside0.mk hs4
        have HG4 := Aside0.mk hG2
        clear hI4 hB4 hs4 hG2 hl2 hh2 hK4 HI3 HB3 HS3 hx3 hm0 hm1 hm2 hm3
        go_wp2_with fail
        refine (next_any g l2 h2 w0 w4 HS4.out HB4.out hb1 hb2 (by omega)).mono ?_
        rintro e5 w5 ⟨rfl, hs5, hB5, hK5⟩
        have hI5 := HL.out.keep _ w5 _ g _ HI4.out HS4.out.1 hK5
        have HI5 := Aside0.mk hI5
        have HB5 := Aside0.mk hB5
        have HS5 := Aside0.mk hs5
        have HV5 := Aside0.mk (And.intro hb1 (And.intro hb2 (And.intro hb3 hb4)))
        clear hI5 hB5 hs5 hK5 hb1 hb2 hb3 hb4
        go_wp2_with fail
        go_roundg k1
        case measure => omega
        case rel => exact ⟨l2, h2, acc ++ [m], rfl, rfl, HV5, HG4, HI5, HS5, HB5, ⟨by have := HK1.out; simp; omega⟩⟩
    · have hd : decide (low < high) = false := by simpa using hlt
      have e1 : low = high := by omega
      have hG : lookRun ts t = (acc, low) := by
        rw [← HG.out]
        cases gk <;> simp [lookGo, hlt]
      have HG1 := Aside0.mk hG
      have HS1 := Aside0.mk (cellS37_0 HS.out.1)
      have hc1 := HS1.out
      clear hG e1 hm hlt HG hv0 hv1 hv2 hv3 hA
      rw [hd]
      clear hd
      go_wp2_with fail
      go_ret
      refine ⟨?_, ?_, HB.out⟩
      · rw [HG1.out]; rfl
      · rw [HG1.out]; exact HI.out

end Go.Proofs.Ytbedgjjiinhpkaa.P
