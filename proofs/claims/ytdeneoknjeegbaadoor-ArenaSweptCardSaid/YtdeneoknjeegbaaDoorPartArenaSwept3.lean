/- Lemmas of this claim, part 3. -/
import Derived.Test.YtdeneoknjeegbaaDoorPartArenaSwept2
import Derived.StillTailTactics
import Derived.Handy
import Derived.BigRegion
section
set_option linter.unusedVariables false
set_option linter.unusedSimpArgs false
namespace Go.Proofs.YtdeneoknjeegbaaDoor.P
open Go.RowKit Go.Proofs.YtdeneoknjeegbaaDoorW.PrintWords Go.Proofs.YtdeneoknjeegbaaDoorW.PrintLast Go.Proofs.YtdeneoknjeegbaaDoorW.PrintMore
structure Sums where
  a : Int
  b : Int
  c : Int
  d : Int
  e : Int
  f : Int
  g : Int
  h : Int
def Sums.list (s : Sums) : List Int := [s.a, s.b, s.c, s.d, s.e, s.f, s.g, s.h]
def Sums.round (s : Sums) (add wi : Int) : Sums :=
  let t := (s.h + (sha_sigma.f s.e 6 11 25).getD 0 + Go.bits .xor .u32 (Go.bits .and .u32 s.e (Go.bits .xor .u32 s.f s.g)) s.g + add + wi) % 4294967296
  let u := ((sha_sigma.f s.a 2 13 22).getD 0 + Go.bits .or .u32 (Go.bits .and .u32 s.a (Go.bits .or .u32 s.b s.c)) (Go.bits .and .u32 s.b s.c)) % 4294967296
  ⟨(t + u) % 4294967296, s.a, s.b, s.c, (s.d + t) % 4294967296, s.e, s.f, s.g⟩
def Sums.rounds (ws : List Int) (s : Sums) : Nat → Sums
  | 0 => s
  | k + 1 => (Sums.rounds ws s k).round (shaAdded.getD k 0) (ws.getD k 0)
def addW (xs ys : List Int) : Nat → List Int
  | 0 => xs
  | k + 1 => (addW xs ys k).set k (((addW xs ys k).getD k 0 + ys.getD k 0) % 4294967296)
theorem addW_length (xs ys : List Int) (k : Nat) : (addW xs ys k).length = xs.length := by
  induction k with
  | zero => rfl
  | succ k ih => simp [addW, ih]
def Sums.take (s : Sums) (bs : List Int) : List Int := addW (Sums.rounds (schedule bs) s 64).list s.list 8
set_option maxRecDepth 100000 in
theorem sums_index (s : Sums) (k : Nat) (hk : k < 8) (w : World) : (Instr.index 149 (.agg #[.int .u32 s.a, .int .u32 s.b, .int .u32 s.c, .int .u32 s.d, .int .u32 s.e, .int .u32 s.f, .int .u32 s.g, .int .u32 s.h]) (.int .i64 (k : Int))).run Tryd.prog w = .ok (.int .u32 (s.list.getD k 0)) w := by
  rcases (show k = 0 ∨ k = 1 ∨ k = 2 ∨ k = 3 ∨ k = 4 ∨ k = 5 ∨ k = 6 ∨ k = 7 by omega) with rfl | rfl | rfl | rfl | rfl | rfl | rfl | rfl
  all_goals kernel_rfl
theorem IsSums.cells {w : World} {g t : Nat} {s : Sums} (h : IsWords w g t s.list) :
    w.cell? ⟨g, 0, none⟩ = some (.int .u32 s.a) ∧ w.cell? ⟨g, 1, none⟩ = some (.int .u32 s.b) ∧ w.cell? ⟨g, 2, none⟩ = some (.int .u32 s.c) ∧ w.cell? ⟨g, 3, none⟩ = some (.int .u32 s.d) ∧
    w.cell? ⟨g, 4, none⟩ = some (.int .u32 s.e) ∧ w.cell? ⟨g, 5, none⟩ = some (.int .u32 s.f) ∧ w.cell? ⟨g, 6, none⟩ = some (.int .u32 s.g) ∧ w.cell? ⟨g, 7, none⟩ = some (.int .u32 s.h) :=
  ⟨blk_cell h 0, blk_cell h 1, blk_cell h 2, blk_cell h 3, blk_cell h 4, blk_cell h 5, blk_cell h 6, blk_cell h 7⟩
def put8 (w : World) (g : Nat) (v0 v1 v2 v3 v4 v5 v6 v7 : Int) : World :=
  ((((((((w.setCell ⟨g, 0, none⟩ (.int .u32 v0)).setCell ⟨g, 1, none⟩ (.int .u32 v1)).setCell ⟨g, 2, none⟩ (.int .u32 v2)).setCell ⟨g, 3, none⟩ (.int .u32 v3)).setCell ⟨g, 4, none⟩ (.int .u32 v4)).setCell ⟨g, 5, none⟩ (.int .u32 v5)).setCell ⟨g, 6, none⟩ (.int .u32 v6)).setCell ⟨g, 7, none⟩ (.int .u32 v7))
theorem put8_words {w : World} {g t : Nat} {s : Sums} (h : IsWords w g t s.list) (v0 v1 v2 v3 v4 v5 v6 v7 : Int) : IsWords (put8 w g v0 v1 v2 v3 v4 v5 v6 v7) g t [v0, v1, v2, v3, v4, v5, v6, v7] :=
  (((((((h.set 0 v0).set 1 v1).set 2 v2).set 3 v3).set 4 v4).set 5 v5).set 6 v6).set 7 v7
theorem put8_far {w : World} {g g2 t : Nat} {xs : List Int} (h : IsWords w g2 t xs) (hne : g2 ≠ g) (v0 v1 v2 v3 v4 v5 v6 v7 : Int) : IsWords (put8 w g v0 v1 v2 v3 v4 v5 v6 v7) g2 t xs := by
  exact blk_far (blk_far (blk_far (blk_far (blk_far (blk_far (blk_far (blk_far (h) hne _) hne _) hne _) hne _) hne _) hne _) hne _) hne _
theorem put8_below {w0 w : World} {g : Nat} (h : Below w0.heap.size w0 w) (hg : w0.heap.size ≤ g) (v0 v1 v2 v3 v4 v5 v6 v7 : Int) : Below w0.heap.size w0 (put8 w g v0 v1 v2 v3 v4 v5 v6 v7) := by
  exact Below.setCell (Below.setCell (Below.setCell (Below.setCell (Below.setCell (Below.setCell (Below.setCell (Below.setCell (h) hg _) hg _) hg _) hg _) hg _) hg _) hg _) hg _
theorem put8_keep {w0 w : World} {g : Nat} (h : KeepBut w0 w g none) (v0 v1 v2 v3 v4 v5 v6 v7 : Int) : KeepBut w0 (put8 w g v0 v1 v2 v3 v4 v5 v6 v7) g none := by
  exact KeepBut.set_ (KeepBut.set_ (KeepBut.set_ (KeepBut.set_ (KeepBut.set_ (KeepBut.set_ (KeepBut.set_ (KeepBut.set_ (h) _ _) _ _) _ _) _ _) _ _) _ _) _ _) _ _
theorem quiet_drawn {P : Program} {f : FuncId} {args : Array Value} {w : World} {n : Nat} {v : Value}
    (h : Calls P f args (w.drewN n) fun e w' => e = .returned v ∧ Drawn0 (w.drewN n) w') : Calls P f args (w.drewN n) fun e w'' => e = .returned v ∧ ∃ m, w'' = w.drewN m :=
  Calls.quiet_of (h.mono fun _ _ ⟨he, hd⟩ => ⟨he, hd.out⟩)
theorem quiet_drawn2 {P : Program} {f : FuncId} {args : Array Value} {w : World} {q n : Nat} {v : Value}
    (h : Calls P f args (w.drewN (q + n)) fun e w' => e = .returned v ∧ Drawn0 (w.drewN (q + n)) w') : Calls P f args (w.drewN (q + n)) fun e w'' => e = .returned v ∧ ∃ m, w'' = w.drewN (q + m) :=
  h.mono fun _ _ ⟨he, hd⟩ => by
    obtain ⟨m, hm⟩ := hd.out
    exact ⟨he, n + m, by rw [hm, World.drewN_drewN, Nat.add_assoc]⟩
theorem still_tail_at {P : Program} {id : Nat} {Q : Exit → Act → World → Prop} {a : Act} {w : World} {l : List Oper} (n : Nat) (hm : P.follows .mixedOrders = true) (hB : Region.lexTailB .any l.toArray n = true)
    (h : ∀ W : World, W = w.drew → wpStill P l.toArray W (fun a' => wpList P l.toArray Q (l.drop n) a' W) (l.take n) a) : (Code.region id l.toArray true).wp P Q a w :=
  wp_region_still_tail n hm hB (h _ rfl)
set_option maxHeartbeats 4000000 in
set_option maxRecDepth 100000 in
theorem take_calls (g : Nat) (s : Sums) (A0 : Option Addr) (cap : Nat) (bs : List Int) (w0 w : World) (hI : IsWords w g 149 s.list) (hge : w0.heap.size ≤ g) (hr : Kd.C (Kd.int .u8) w A0 bs.length bs) (hc : bs.length ≤ cap) (hl : 64 ≤ bs.length) (hb : bs.length < 9223372036854775807)
    (hB : Below w0.heap.size w0 w) (hGS : GlobS w0) :
    Calls Tryd.prog 108 #[.pointer (some ⟨g, 0, none⟩), .slice A0 bs.length cap] w fun e w' => e = .returned (.tuple #[]) ∧ IsWords w' g 149 (s.take bs) ∧ Below w0.heap.size w0 w' ∧ KeepBut w w' g none := by
  have HLT := Aside0.mk (blk_lt hI)
  have HR := Aside0.mk hr
  have HI := Aside0.mk hI
  have HB := Aside0.mk hB
  have HGS := Aside0.mk hGS
  clear hr hI hB hGS
  go_enter Tryd.func108, Tryd.ntmps108
  go_wp2_with fail
  refine (scheduleOf_calls A0 cap bs w HR.out hc hl hb).mono ?_
  rintro e1 w1 ⟨rfl, hW1, hB1⟩
  have hI1 : IsWords w1 g 149 s.list := blk_below HI.out hB1
  obtain ⟨c0, c1, c2, c3, c4, c5, c6, c7⟩ := IsSums.cells hI1
  have HI1 := Aside0.mk hI1
  have HB1 := Aside0.mk hB1
  have HW1 := Aside0.mk hW1
  clear hW1 hI1 hB1
  go_wp2_with fail
  obtain ⟨gw, hgw⟩ : ∃ x, x = w.heap.size := ⟨_, rfl⟩
  obtain ⟨gs, hgs⟩ : ∃ x, x = w1.heap.size := ⟨_, rfl⟩
  rw [← hgw, ← hgs]
  have HGW := Aside0.mk hgw
  have HGSz := Aside0.mk hgs
  obtain ⟨ws, hws⟩ : ∃ x, x = schedule bs := ⟨_, rfl⟩
  have HWS := Aside0.mk hws
  clear hgw hgs hws c0 c1 c2 c3 c4 c5 c6 c7
  go_loopw [18] (fun v18 wr => ∃ k : Nat, k ≤ 64 ∧ v18 = .int .i64 k ∧ Aside0 (IsWords wr g 149 (Sums.rounds ws s k).list) ∧ Aside0 (IsWords wr gw 161 ws) ∧ Aside0 (IsWords wr gs 149 s.list) ∧ Aside0 (Below w0.heap.size w0 wr) ∧ Aside0 (KeepBut w wr g none)) (fun v18 _ => 64 - (intOf v18).toNat)
  case atStart =>
    refine ⟨0, by omega, rfl, ⟨blk_alloc HI1.out _⟩, ⟨?_⟩, ⟨?_⟩, ⟨below_alloc (below_then HB.out HB.out.size HB1.out) _⟩, ⟨?_⟩⟩
    · rw [HWS.out, HGW.out]
      exact blk_alloc HW1.out _
    · rw [HGSz.out]
      exact heap_alloc_new w1 _
    · exact ⟨by have := HB1.out.size; simp; omega, fun i hi _ _ => (Below.heap_alloc _ _ _ (by have := HB1.out.size; omega)).trans (HB1.out.block i hi)⟩
  case round =>
    obtain ⟨k, hk, rfl, HI, HW, HS, HB, HK⟩ := hrel
    by_cases hlt : k < 64
    · have hd : decide ((k : Int) < 64) = true := by simp; omega
      obtain ⟨S, hS⟩ : ∃ x, x = Sums.rounds ws s k := ⟨_, rfl⟩
      rw [← hS] at HI
      obtain ⟨c0, c1, c2, c3, c4, c5, c6, c7⟩ := IsSums.cells HI.out
      have f0 := HI.out.frozen 0
      have hws64 : ws.length = 64 := by rw [HWS.out]; exact sched2_length _ _ (sched1_length _ _)
      have cw := HW.out.cell k (by omega)
      have ca := (GlobS.of HGS.out HB.out).2 k hlt
      obtain ⟨wi, hwi⟩ : ∃ x, x = ws.getD k 0 := ⟨_, rfl⟩
      obtain ⟨ai, hai⟩ : ∃ x, x = shaAdded.getD k 0 := ⟨_, rfl⟩
      rw [← hwi] at cw
      rw [← hai] at ca
      have pk : 0 ≤ (k : Int) := by omega
      have qk : (k : Int) < 64 := by omega
      have G1 := Aside0.mk (sigma_some S.e 6 11 25)
      have G2 := Aside0.mk (sigma_some S.a 2 13 22)
      obtain ⟨y1, hy1⟩ : ∃ y, y = (sha_sigma.f S.e 6 11 25).getD 0 := ⟨_, rfl⟩
      obtain ⟨y2, hy2⟩ : ∃ y, y = (sha_sigma.f S.a 2 13 22).getD 0 := ⟨_, rfl⟩
      rw [← hy1] at G1
      rw [← hy2] at G2
      have HX := Aside0.mk (And.intro hS (And.intro hwi (And.intro hai (And.intro hy1 (And.intro hy2 hlt)))))
      clear hS hwi hai hy1 hy2 hws64 hlt
      go_wp2_with fail
      go_quiet (fail)
      go_wp2_with fail
      go_quiet ((go_at_call 116; (first | exact quiet_drawn2 (sha_sigma.calls S.e 6 11 25 y1 _ G1.out) | exact quiet_drawn (sha_sigma.calls S.e 6 11 25 y1 _ G1.out))))
      go_wp2_with fail
      go_quiet ((go_at_call 116; (first | exact quiet_drawn2 (sha_sigma.calls S.a 2 13 22 y2 _ G2.out) | exact quiet_drawn (sha_sigma.calls S.a 2 13 22 y2 _ G2.out))))
      go_wp2_with fail
      refine still_tail_at 30 (by kernel_rfl) (by kernel_rfl) (fun W hW => ?_)
      have HIW : IsWords W g 149 S.list := by rw [hW]; exact HI.out
      have HWW : Aside0 (IsWords W gw 161 ws) := ⟨by rw [hW]; exact HW.out⟩
      have HSW : Aside0 (IsWords W gs 149 s.list) := ⟨by rw [hW]; exact HS.out⟩
      have HBW : Aside0 (Below w0.heap.size w0 W) := ⟨by rw [hW]; exact below_drew1 (pw_below_drewN (pw_below_drewN (pw_below_drewN HB.out _) _) _)⟩
      have HKW : Aside0 (KeepBut w W g none) := ⟨by rw [hW]; exact HK.out⟩
      obtain ⟨c0, c1, c2, c3, c4, c5, c6, c7⟩ := IsSums.cells HIW
      have f0 := HIW.frozen 0
      have f1 := HIW.frozen 1
      have f2 := HIW.frozen 2
      have f3 := HIW.frozen 3
      have f4 := HIW.frozen 4
      have f5 := HIW.frozen 5
      have f6 := HIW.frozen 6
      have f7 := HIW.frozen 7
      have HIw := Aside0.mk HIW
      clear HIW hW HI HW HS HB HK cw ca
      simp only [List.take_succ_cons, List.take_zero, List.drop_succ_cons, List.drop_zero]
      repeat still_step
      refine wpStill_nil ?_
      go_wp2_with fail
      go_roundw
      case measure => simp [intOf]; have := HX.out.2.2.2.2.2; omega
      case rel =>
        refine ⟨k + 1, by have := HX.out.2.2.2.2.2; omega, by go_num, ⟨?_⟩, ⟨?_⟩, ⟨?_⟩, ⟨?_⟩, ⟨?_⟩⟩
        · have hX := HX.out
          have hp := put8_words HIw.out ((S.h + y1 + Go.bits .xor .u32 (Go.bits .and .u32 S.e (Go.bits .xor .u32 S.f S.g)) S.g + ai + wi + (y2 + Go.bits .or .u32 (Go.bits .and .u32 S.a (Go.bits .or .u32 S.b S.c)) (Go.bits .and .u32 S.b S.c))) % 4294967296) S.a S.b S.c ((S.d + (S.h + y1 + Go.bits .xor .u32 (Go.bits .and .u32 S.e (Go.bits .xor .u32 S.f S.g)) S.g + ai + wi)) % 4294967296) S.e S.f S.g
          have hq : (Sums.rounds ws s (k + 1)).list = [(S.h + y1 + Go.bits .xor .u32 (Go.bits .and .u32 S.e (Go.bits .xor .u32 S.f S.g)) S.g + ai + wi + (y2 + Go.bits .or .u32 (Go.bits .and .u32 S.a (Go.bits .or .u32 S.b S.c)) (Go.bits .and .u32 S.b S.c))) % 4294967296, S.a, S.b, S.c, (S.d + (S.h + y1 + Go.bits .xor .u32 (Go.bits .and .u32 S.e (Go.bits .xor .u32 S.f S.g)) S.g + ai + wi)) % 4294967296, S.e, S.f, S.g] := by
            simp only [Sums.rounds]
            rw [← hX.1, ← hX.2.1, ← hX.2.2.1]
            simp only [Sums.round, Sums.list]
            rw [← hX.2.2.2.1, ← hX.2.2.2.2.1]
            generalize Go.bits .xor .u32 (Go.bits .and .u32 S.e (Go.bits .xor .u32 S.f S.g)) S.g = X
            generalize Go.bits .or .u32 (Go.bits .and .u32 S.a (Go.bits .or .u32 S.b S.c)) (Go.bits .and .u32 S.b S.c) = Y
            have q1 : ((S.h + y1 + X + ai + wi) % 4294967296 + (y2 + Y) % 4294967296) % 4294967296 = (S.h + y1 + X + ai + wi + (y2 + Y)) % 4294967296 := by omega
            have q2 : (S.d + (S.h + y1 + X + ai + wi) % 4294967296) % 4294967296 = (S.d + (S.h + y1 + X + ai + wi)) % 4294967296 := by omega
            rw [q1, q2]
          rw [hq]
          exact hp
        · exact put8_far HWW.out (by rw [HGW.out]; have := HLT.out; omega) _ _ _ _ _ _ _ _
        · exact put8_far HSW.out (by rw [HGSz.out]; have := HLT.out; have := HB1.out.size; omega) _ _ _ _ _ _ _ _
        · exact put8_below HBW.out hge _ _ _ _ _ _ _ _
        · exact put8_keep HKW.out _ _ _ _ _ _ _ _
    · have hd : decide ((k : Int) < 64) = false := by simp; omega
      have hk64 : k = 64 := by omega
      rw [hk64] at HI
      obtain ⟨S, hS⟩ : ∃ x, x = Sums.rounds ws s 64 := ⟨_, rfl⟩
      rw [← hS] at HI
      obtain ⟨c0, c1, c2, c3, c4, c5, c6, c7⟩ := IsSums.cells HS.out
      have HX := Aside0.mk hS
      clear hS hk64 hk hlt HW
      go_wp2_with fail
      clear c0 c1 c2 c3 c4 c5 c6 c7 hd HS
      go_loopw [119] (fun v119 wr => ∃ k : Nat, k ≤ 8 ∧ v119 = .int .i64 k ∧ Aside0 (IsWords wr g 149 (addW S.list s.list k)) ∧ Aside0 (Below w0.heap.size w0 wr) ∧ Aside0 (KeepBut w wr g none)) (fun v119 _ => 8 - (intOf v119).toNat)
      case atStart => exact ⟨0, by omega, rfl, HI, HB, HK⟩
      case round =>
        clear HI HB HK
        obtain ⟨k, hk, rfl, HI, HB, HK⟩ := hrel
        by_cases hlt : k < 8
        · have hd : decide ((k : Int) < 8) = true := by simp; omega
          have hix := sums_index s k hlt
          have pk : 0 ≤ (k : Int) := by omega
          have qk : (k : Int) < 8 := by omega
          obtain ⟨y, hy⟩ : ∃ y, y = s.list.getD k 0 := ⟨_, rfl⟩
          obtain ⟨x, hx⟩ : ∃ x, x = (addW S.list s.list k).getD k 0 := ⟨_, rfl⟩
          have hc := HI.out.cell k (by rw [addW_length]; exact hlt)
          have hf := HI.out.frozen k
          rw [← hx] at hc
          rw [← hy] at hix
          have HXY := Aside0.mk (And.intro hx (And.intro hy hlt))
          clear hx hy hlt
          go_wp2_with fail
          refine still_tail_at 9 (by kernel_rfl) (by kernel_rfl) (fun W hW => ?_)
          have hcW : W.cell? ⟨g, k, none⟩ = some (.int .u32 x) := by rw [hW]; exact hc
          have hfW : W.frozen? ⟨g, k, none⟩ = false := by rw [hW]; exact hf
          have HIW : Aside0 (IsWords W g 149 (addW S.list s.list k)) := ⟨by rw [hW]; exact HI.out⟩
          have HBW : Aside0 (Below w0.heap.size w0 W) := ⟨by rw [hW]; exact below_drew1 HB.out⟩
          have HKW : Aside0 (KeepBut w W g none) := ⟨by rw [hW]; exact HK.out⟩
          clear hW HI HB HK hc hf
          simp only [List.take_succ_cons, List.take_zero, List.drop_succ_cons, List.drop_zero]
          repeat still_step
          refine wpStill_nil ?_
          go_wp2_with fail
          go_roundw
          case measure => simp [intOf]; have := HXY.out.2.2; omega
          case rel =>
            refine ⟨k + 1, by have := HXY.out.2.2; omega, by go_num, ⟨?_⟩, ⟨HBW.out.setCell hge _⟩, ⟨HKW.out.set_ _ _⟩⟩
            simp only [addW]
            rw [← HXY.out.1, ← HXY.out.2.1]
            exact HIW.out.set k _
        · have hd : decide ((k : Int) < 8) = false := by simp; omega
          have hk8 : k = 8 := by omega
          rw [hk8] at HI
          clear hk8 hk hlt
          go_wp2_with fail
          go_end0
          refine ⟨rfl, ?_, HB.out, HK.out⟩
          unfold Sums.take
          rw [← HWS.out, ← HX.out]
          exact HI.out
end Go.Proofs.YtdeneoknjeegbaaDoor.P
end
section
set_option linter.unusedVariables false
set_option linter.unusedSimpArgs false
namespace Go.Proofs.YtdeneoknjeegbaaDoor.P
open Go.RowKit Go.Proofs.YtdeneoknjeegbaaDoorW.PrintWords Go.Proofs.YtdeneoknjeegbaaDoorW.PrintLast Go.Proofs.YtdeneoknjeegbaaDoorW.PrintMore
set_option maxRecDepth 100000 in
theorem new_calls (size room : Int) (w : World) (h1 : 1 ≤ size) (h2 : size ≤ 32) (h3 : 1 ≤ room) (h4 : room ≤ 4194304) :
    Calls Tryd.prog 8 #[.int .i64 size, .int .i64 room] w fun e w' => e = .returned (.tuple #[.pointer (some ⟨w.heap.size, 0, none⟩), .int .i64 0]) ∧ ABlk w' w.heap.size size room (.slice none 0 0) (.slice none 0 0) ∧ Below w.heap.size w w' := by
  have d1 : decide (size < 1) = false := decide_eq_false (by omega)
  have d2 : decide (32 < size) = false := decide_eq_false (by omega)
  have d3 : decide (room < 1) = false := decide_eq_false (by omega)
  have d4 : decide (4194304 < room) = false := decide_eq_false (by omega)
  clear h1 h2 h3 h4
  go_enter Tryd.func8, Tryd.ntmps8
  go_wp2_with fail
  go_ret2
  exact ⟨rfl, heap_alloc_new w _, below_alloc (Below.refl _ _) _⟩
def cell0 : List Value := [.bool false, .bool false, .slice none 0 0, .slice none 0 0, .int .i64 0, .int .i64 0, .slice none 0 0, .int .i64 0, .int .i64 0, .int .i64 0, .slice none 0 0]
theorem infoCell : (Tryd.prog.info? 89).map (fun i => (i.zero, i.size, i.bytes)) = some (some (.agg #[.bool false, .bool false, .slice none 0 0, .slice none 0 0, .int .i64 0, .int .i64 0, .slice none 0 0, .int .i64 0, .int .i64 0, .int .i64 0, .slice none 0 0]), 11, 152) := by kernel_rfl
abbrev CellsR (w : World) (base : Nat) (v : Value) (cs : List (List Value)) : Prop := Kd.R (Kd.raw 11) 89 w base (fun _ => True) v cs
theorem ABlk.grown {w w1 : World} {p base : Nat} {size room : Int} {vc vf : Value} {cs : List (List Value)} (h : ABlk w p size room vc vf) (hR : CellsR w base vc cs) (hg : w.grownBy w1 vc.ownBlock) : ABlk w1 p size room vc vf :=
  (hg.block p h.lt (Kd.R_ne hR h (by decide))).trans h
theorem ABlk.set2 {w : World} {p : Nat} {size room : Int} {vc vf : Value} (h : ABlk w p size room vc vf) (v : Value) : ABlk (w.setCell ⟨p, 2, none⟩ v) p size room v vf := by
  have := blk_set h 2 v
  exact this
theorem ABlk.set3 {w : World} {p : Nat} {size room : Int} {vc vf : Value} (h : ABlk w p size room vc vf) (v : Value) : ABlk (w.setCell ⟨p, 3, none⟩ v) p size room vc v := by
  have := blk_set h 3 v
  exact this
set_option maxHeartbeats 4000000 in
set_option maxRecDepth 100000 in
theorem put_grow {w : World} {p base : Nat} {size room : Int} {vc : Value} {A' : Option Addr} {c' : Nat} {cs : List (List Value)} (lf : Bool) (A1 A2 A5 A9 : Option Addr) (n1 n2 n5 n9 c1 c2 c5 c9 : Nat) (x3 x4 x6 x7 x8 : Int)
    (h : ABlk w p size room vc (.slice A' 0 c')) (hR : CellsR w base vc cs) (hs : size ≠ 0) (hb : base ≤ p) (hr : (cs.length : Int) < room) (hr1 : room ≤ 4194304) :
    Calls Tryd.prog 74 #[.pointer (some ⟨p, 0, none⟩), .agg #[.bool lf, .slice A1 n1 c1, .slice A2 n2 c2, .int .i64 x3, .int .i64 x4, .slice A5 n5 c5, .int .i64 x6, .int .i64 x7, .int .i64 x8, .slice A9 n9 c9]] w
      fun e w' => e = .returned (.tuple #[.int .i64 (cs.length : Int), .int .i64 0]) ∧ ∃ v1, ABlk w' p size room v1 (.slice A' 0 c') ∧ CellsR w' base v1 (cs ++ [[.bool true, .bool lf, .slice A1 n1 c1, .slice A2 n2 c2, .int .i64 x3, .int .i64 x4, .slice A5 n5 c5, .int .i64 x6, .int .i64 x7, .int .i64 x8, .slice A9 n9 c9]]) ∧
        (v1.ownBlock = vc.ownBlock ∨ ∃ b, v1.ownBlock = some b ∧ w.heap.size ≤ b) ∧ KeepBut w w' p vc.ownBlock ∧ (base ≤ w.heap.size → Below base w w') := by
  obtain ⟨A, c, rfl⟩ := Kd.R_slice hR
  have HBk := Aside0.mk h
  have HR := Aside0.mk hR
  have HS := Aside0.mk hs
  have HBP := Aside0.mk hb
  obtain ⟨u, hu⟩ : ∃ u, u = room - ((cs.length : Int) - ((0 : Nat) : Int)) := ⟨_, rfl⟩
  have hu0 : (u == 0) = false := by simp; omega
  obtain ⟨b0, hb0⟩ : ∃ b, b = w.heap.size := ⟨_, rfl⟩
  have HRL := Aside0.mk hr
  have HRM := Aside0.mk hr1
  have HU := Aside0.mk hu
  have HB0 := Aside0.mk hb0
  clear h hR hs hb hr hr1 hu
  go_enter Tryd.func74, Tryd.ntmps74
  go_wp2_with fail
  refine (room_calls (A := A) (n := cs.length) (c := c) (HBk.out.below (below_alloc (Below.refl _ _) _)) HS.out (by have := HRL.out; have := HRM.out; omega) (by omega) (by have := HRL.out; omega) (by have := HRM.out; omega)).mono ?_
  rw [← HU.out]
  rintro e w' ⟨rfl, ⟨m, rfl⟩⟩
  obtain ⟨W1, hW1⟩ : ∃ W1, W1 = (w.alloc (.cells #[.bool lf, .slice A1 n1 c1, .slice A2 n2 c2, .int .i64 x3, .int .i64 x4, .slice A5 n5 c5, .int .i64 x6, .int .i64 x7, .int .i64 x8, .slice A9 n9 c9] 39)).drewN m := ⟨_, rfl⟩
  rw [← hW1]
  have hB1 : Below w.heap.size w W1 := by rw [hW1]; exact pw_below_drewN (below_alloc (Below.refl _ _) _) _
  have hN1 : W1.heap[w.heap.size]? = some (.cells #[.bool lf, .slice A1 n1 c1, .slice A2 n2 c2, .int .i64 x3, .int .i64 x4, .slice A5 n5 c5, .int .i64 x6, .int .i64 x7, .int .i64 x8, .slice A9 n9 c9] 39 (0, 0)) := by rw [hW1]; exact heap_alloc_new w _
  have HN1 := Aside0.mk hN1
  have HB1 := Aside0.mk hB1
  have HR1 := Aside0.mk (Kd.R_below HR.out hB1)
  have HBk1 := Aside0.mk (HBk.out.below hB1)
  clear hN1 hB1 hW1
  obtain ⟨k0, k1, k2, k3⟩ := HBk1.out.cells
  go_wp2_with fail
  refine (len_calls A' 0 c' _).mono ?_
  rintro e w' ⟨rfl, rfl⟩
  have hbs : base ≤ W1.heap.size := by have := HBP.out; have := HBk1.out.lt; omega
  have HBS := Aside0.mk hbs
  clear hbs
  go_wp2_with (first | ((with_reducible refine gate_builtin (b := .append) (xs := #[.tmp 31, .tmp 33]) rfl ?_); go_must (at_builtin; refine Kd.R_append (Kd.raw 11) (w0 := W1) base rfl (.tmp 31) (.tmp 33) 74 89 (.agg #[.bool false, .bool false, .slice none 0 0, .slice none 0 0, .int .i64 0, .int .i64 0, .slice none 0 0, .int .i64 0, .int .i64 0, .int .i64 0, .slice none 0 0]) 152 rfl Tryd.underlying74 infoCell rfl (by decide) (by omega) (.slice A cs.length c) cs cell0 cell0 (fun _ => True) (fun _ => False) rfl rfl ?aP (fun _ h => h.elim) ?aF ?aO ?aB ?aS ?aL ?_; (case aP => exact ⟨rfl, rfl, by decide⟩); (case aF => exact (fun _ _ => trivial)); (case aO => exact HR1.out); (case aB => exact Below.refl _ _); (case aS => exact HBS.out); (case aL => have := HRL.out; have := HRM.out; omega); intro v2 w2 ho hb2 hg hat; obtain ⟨Av, cv, rfl⟩ := Kd.R_slice ho; have HO2 := Aside0.mk ho; have HG2 := Aside0.mk hg; have HAT := Aside0.mk hat; have HB2 := Aside0.mk hb2; have HBk2 := Aside0.mk (HBk1.out.grown HR1.out hg); clear ho hb2 hg hat k0 k1 k2 k3; obtain ⟨k0, k1, k2, k3⟩ := HBk2.out.cells; have kf := blk_frozen HBk2.out 2)))
  rw [List.length_append, show cell0 :: [] = [cell0] from rfl] at HO2
  have hO3 := Kd.R_set HO2.out HBk2.out (by decide) 2 (.slice Av (cs.length + 1) cv)
  have hBk3 := HBk2.out.set2 (.slice Av (cs.length + 1) cv)
  have hpw : p < w.heap.size := HBk.out.lt
  have hN2 := (HG2.out.block w.heap.size (by have := HB1.out.size; exact blk_lt HN1.out) (Kd.R_ne HR1.out HN1.out (by decide))).trans HN1.out
  have hN3 := blk_far hN2 (p := ⟨p, 2, none⟩) (by show w.heap.size ≠ p; omega) (.slice Av (cs.length + 1) cv)
  obtain ⟨W3, hW3⟩ : ∃ W3, W3 = w2.setCell ⟨p, 2, none⟩ (.slice Av (cs.length + 1) cv) := ⟨_, rfl⟩
  rw [← hW3] at hO3 hBk3 hN3
  rw [← hW3]
  have HW3 := Aside0.mk hW3
  have HO3 := Aside0.mk hO3
  have HBk3 := Aside0.mk hBk3
  have HN3 := Aside0.mk hN3
  clear hO3 hBk3 hN3 hW3 hN2 hpw k0 k1 k2 k3 kf
  have hO := HO3.out
  have hrd := Kd.R_reads' hO
  have hn1 : (cs ++ [cell0]).length = cs.length + 1 := by simp
  obtain ⟨ad, cc, rfl, hcl, hcK, hcc⟩ := Kd.C_get hrd.2.2 ([] : List Value) (cs.length : Int) (by omega) (by rw [hn1]; omega)
  obtain ⟨g, rfl⟩ := Kd.R_head hO
  have hcc0 : cc = cell0 := by
    have := hcK.1
    rw [this, Int.toNat_natCast]
    simp
  obtain rfl := hcc0
  have HCC := Aside0.mk hcc
  have q1 : (cs.length : Int) < (cs.length : Int) + 1 := by omega
  have q2 : 0 ≤ (cs.length : Int) := by omega
  clear hn1 hO hrd hcl hcK hcc
  refine still_tail_at 8 (by kernel_rfl) (by kernel_rfl) (fun W hW => ?_)
  replace HBk3 : Aside0 (ABlk W p size room (.slice (some ⟨g, 0, none⟩) (cs.length + 1) cv) (.slice A' 0 c')) := ⟨by rw [hW]; exact HBk3.out⟩
  replace HN3 : Aside0 (W.heap[w.heap.size]? = some (.cells #[.bool lf, .slice A1 n1 c1, .slice A2 n2 c2, .int .i64 x3, .int .i64 x4, .slice A5 n5 c5, .int .i64 x6, .int .i64 x7, .int .i64 x8, .slice A9 n9 c9] 39 (0, 0))) := ⟨by rw [hW]; exact HN3.out⟩
  replace HO3 : Aside0 (CellsR W base (.slice (some ⟨g, 0, none⟩) (cs.length + 1) cv) (cs ++ [cell0])) := ⟨by rw [hW]; exact Kd.R_below HO3.out (below_drew (Below.refl _ _))⟩
  replace HCC : Aside0 (∀ j u, cell0[j]? = some u → W.cell? ⟨g, (cs.length : Int).toNat * 11 + j, none⟩ = some u) := ⟨by rw [hW]; intro j u hj; have := HCC.out j u hj; rwa [add_plain] at this⟩
  have HW := Aside0.mk hW
  clear hW
  obtain ⟨k0, k1, k2, k3⟩ := HBk3.out.cells
  have m0 := blk_cell HN3.out 0
  have m1 := blk_cell HN3.out 1
  have m2 := blk_cell HN3.out 2
  have m3 := blk_cell HN3.out 3
  have m4 := blk_cell HN3.out 4
  have m5 := blk_cell HN3.out 5
  have m6 := blk_cell HN3.out 6
  have m7 := blk_cell HN3.out 7
  have m8 := blk_cell HN3.out 8
  have m9 := blk_cell HN3.out 9
  simp only [List.take_succ_cons, List.take_zero, List.drop_succ_cons, List.drop_zero]
  repeat still_step
  refine wpStill_nil ?_
  clear k0 k1 k2 k3 m0 m1 m2 m3 m4 m5 m6 m7 m8 m9 q1 q2
  refine Kd.R_store (Kd.raw 11) (w0 := W) base rfl rfl 89 (.tmp 44) (.tmp 43) rfl 89 (g := g) (n := cs.length + 1) (cap := cv) (o' := cs.length * 11) (cs.length : Int) 0 (cs ++ [cell0]) [.bool true, .bool lf, .slice A1 n1 c1, .slice A2 n2 c2, .int .i64 x3, .int .i64 x4, .slice A5 n5 c5, .int .i64 x6, .int .i64 x7, .int .i64 x8, .slice A9 n9 c9] (.agg #[.bool true, .bool lf, .slice A1 n1 c1, .slice A2 n2 c2, .int .i64 x3, .int .i64 x4, .slice A5 n5 c5, .int .i64 x6, .int .i64 x7, .int .i64 x8, .slice A9 n9 c9]) [.bool true, .bool lf, .slice A1 n1 c1, .slice A2 n2 c2, .int .i64 x3, .int .i64 x4, .slice A5 n5 c5, .int .i64 x6, .int .i64 x7, .int .i64 x8, .slice A9 n9 c9] cell0 (fun _ => True) (fun _ => False) rfl rfl rfl rfl (by kernel_rfl) (by intro q hq; simp only [List.mem_cons, List.not_mem_nil, or_false] at hq; rcases hq with rfl | rfl | rfl | rfl | rfl | rfl | rfl | rfl | rfl | rfl | rfl <;> rfl) HO3.out (by omega) (by omega) rfl HCC.out (Nat.le_refl 11) ⟨rfl, rfl, by intro q hq; simp only [cell0, List.take_zero, List.nil_append, List.cons_append, List.mem_cons, List.not_mem_nil, or_false, List.drop_succ_cons, List.drop_zero, List.append_nil, Nat.zero_add, List.length_cons, List.length_nil, List.drop_nil] at hq; rcases hq with rfl | rfl | rfl | rfl | rfl | rfl | rfl | rfl | rfl | rfl | rfl <;> rfl⟩ (fun _ h => h.elim) (Below.refl _ _) ?_
  intro w4 hO4 hB4 hG4
  have HO4 := Aside0.mk hO4
  have HB4 := Aside0.mk hB4
  have HG4 := Aside0.mk hG4
  clear hO4 hB4 hG4
  go_wp2_with fail
  go_ret2
  have hgb : base ≤ g := Kd.R_base HO3.out g (by simp [Value.ownBlock])
  have hgp : some p ≠ some g := by
    have := Kd.R_ne HO3.out HBk3.out (by decide)
    simpa [Value.ownBlock] using this
  have hBk4 : ABlk w4 p size room (.slice (some ⟨g, 0, none⟩) (cs.length + 1) cv) (.slice A' 0 c') := (HG4.out.block p HBk3.out.lt hgp).trans HBk3.out
  have hrow := HO4.out
  rw [Int.toNat_natCast, List.set_append_right _ _ (Nat.le_refl _), Nat.sub_self] at hrow
  have s1 := HB1.out.size
  have hat : (Value.slice (some ⟨g, 0, none⟩) (cs.length + 1) cv).ownBlock = (Value.slice A cs.length c).ownBlock ∨ ∃ b, (Value.slice (some ⟨g, 0, none⟩) (cs.length + 1) cv).ownBlock = some b ∧ w.heap.size ≤ b := by
    rcases HAT.out with h | ⟨b, h, hle⟩
    · exact .inl h
    · exact .inr ⟨b, h, by omega⟩
  have hW3 : Below base W1 W := by
    rw [HW.out]
    have h3 : Below base W1 W3 := by rw [HW3.out]; exact HB2.out.setCell (by show base ≤ p; exact HBP.out) _
    exact below_drew1 h3
  refine ⟨rfl, _, hBk4, hrow, hat, ⟨?_, ?_⟩, fun hbw => ((HB1.out.mono hbw).trans hW3).trans HB4.out⟩
  · have := hW3.size
    have := HB4.out.size
    omega
  · intro i hi hip hio
    have e1 : w4.heap[i]? = W.heap[i]? := by
      refine HG4.out.block i ?_ ?_
      · have := hW3.size
        omega
      · rcases HAT.out with h | ⟨b, h, hle⟩
        · rw [← h] at hio
          exact hio
        · intro he
          have : some i = some b := he.trans h
          injection this with this
          omega
    have e2 : W.heap[i]? = w2.heap[i]? := by
      rw [HW.out]
      show W3.heap[i]? = _
      rw [HW3.out]
      exact Below.heap_setCell w2 ⟨p, 2, none⟩ _ i hip
    exact e1.trans (e2.trans ((HG2.out.block i (by omega) hio).trans (HB1.out.block i hi)))
end Go.Proofs.YtdeneoknjeegbaaDoor.P
end
section
set_option linter.unusedVariables false
set_option linter.unusedSimpArgs false
namespace Go.Proofs.YtdeneoknjeegbaaDoor.P
open Go.RowKit Go.Proofs.YtdeneoknjeegbaaDoorW.PrintWords Go.Proofs.YtdeneoknjeegbaaDoorW.PrintLast Go.Proofs.YtdeneoknjeegbaaDoorW.PrintMore
theorem wrap_run (P : Program) (ats : Array TypeId) (t : TypeId) (a : Addr) (x y : String) (w : World) : Sem.run P (Builtin.ssaWrapNilChk_ ats t #[.pointer (some a), strVal x, strVal y]) w = .ok (.pointer (some a)) w := rfl
theorem method_val {P : Program} {t e : TypeId} {name : String} {f : FuncId} (n : Nat) (h : (P.info? t).bind (fun i => (i.methods.find? (·.name == name)).map (fun m => (m.path.size, m.func))) = some (0, some (f, false))) (hu : P.underlying t = some (.pointer e)) (he : ∀ w, Sem.run P (isAgg e) w = .ok false w) {w : World} {a : Addr} {v : Value} (hv : w.cell? a = some v) : Sem.run P (method (n + 1) t (.pointer (some a)) name) w = .ok (f, v) w := by
  cases hi : P.info? t with
  | none => rw [hi] at h; cases h
  | some i =>
    rw [hi] at h
    cases hm : i.methods.find? (·.name == name) with
    | none => simp [hm] at h
    | some m =>
      simp [hm] at h
      obtain ⟨h1, h2⟩ := h
      rw [method]
      simp [go_sem, typeInfo, hi, hm, h1, h2, follow, receiverAt, underlying, hu, Place.get, wrap_run, he, hv]
theorem method_ptr {P : Program} {t e : TypeId} {name : String} {f : FuncId} (n : Nat) (h : (P.info? t).bind (fun i => (i.methods.find? (·.name == name)).map (fun m => (m.path.size, m.func))) = some (0, some (f, true))) (hu : P.underlying t = some (.pointer e)) (w : World) (v : Value) : Sem.run P (method (n + 1) t v name) w = .ok (f, v) w := by
  cases hi : P.info? t with
  | none => rw [hi] at h; cases h
  | some i =>
    rw [hi] at h
    cases hm : i.methods.find? (·.name == name) with
    | none => simp [hm] at h
    | some m =>
      simp [hm] at h
      obtain ⟨h1, h2⟩ := h
      rw [method]
      simp [go_sem, typeInfo, hi, hm, h1, h2, follow, receiverAt, underlying, hu, Place.get]
theorem less_row : (Tryd.prog.info? 91).bind (fun i => (i.methods.find? (·.name == "Less")).map (fun m => (m.path.size, m.func))) = some (0, some (136, false)) := by kernel_rfl
theorem swap_row : (Tryd.prog.info? 91).bind (fun i => (i.methods.find? (·.name == "Swap")).map (fun m => (m.path.size, m.func))) = some (0, some (137, false)) := by kernel_rfl
theorem len_row : (Tryd.prog.info? 91).bind (fun i => (i.methods.find? (·.name == "Len")).map (fun m => (m.path.size, m.func))) = some (0, some (48, false)) := by kernel_rfl
theorem pop_row : (Tryd.prog.info? 91).bind (fun i => (i.methods.find? (·.name == "Pop")).map (fun m => (m.path.size, m.func))) = some (0, some (138, true)) := by kernel_rfl
theorem push_row : (Tryd.prog.info? 91).bind (fun i => (i.methods.find? (·.name == "Push")).map (fun m => (m.path.size, m.func))) = some (0, some (139, true)) := by kernel_rfl
theorem less_method {w : World} {a : Addr} {v : Value} (n : Nat) (h : w.cell? a = some v) : Sem.run Tryd.prog (method (n + 1) 91 (.pointer (some a)) "Less") w = .ok (136, v) w :=
  method_val n less_row Tryd.underlying91 (fun w => by kernel_rfl) h
theorem swap_method {w : World} {a : Addr} {v : Value} (n : Nat) (h : w.cell? a = some v) : Sem.run Tryd.prog (method (n + 1) 91 (.pointer (some a)) "Swap") w = .ok (137, v) w :=
  method_val n swap_row Tryd.underlying91 (fun w => by kernel_rfl) h
theorem len_method {w : World} {a : Addr} {v : Value} (n : Nat) (h : w.cell? a = some v) : Sem.run Tryd.prog (method (n + 1) 91 (.pointer (some a)) "Len") w = .ok (48, v) w :=
  method_val n len_row Tryd.underlying91 (fun w => by kernel_rfl) h
theorem pop_method (w : World) (v : Value) (n : Nat) : Sem.run Tryd.prog (method (n + 1) 91 v "Pop") w = .ok (138, v) w :=
  method_ptr n pop_row Tryd.underlying91 w v
theorem push_method (w : World) (v : Value) (n : Nat) : Sem.run Tryd.prog (method (n + 1) 91 v "Push") w = .ok (139, v) w :=
  method_ptr n push_row Tryd.underlying91 w v
theorem gn_rd (l : List Int) (k : Nat) : rd l (k : Int) = gn l k := by
  unfold gn
  rfl
theorem less_calls {w : World} {ad : Addr} {n c : Nat} {l : List Int} (h : (Kd.int .i64).C w (some ad) n l) (i j : Nat) (hi : i < n) (hj : j < n) :
    Calls Tryd.prog 136 #[.slice (some ad) n c, .int .i64 (i : Int), .int .i64 (j : Int)] w fun e w' => e = .returned (.bool (decide (gn l i < gn l j))) ∧ Drawn0 w w' := by
  have hc1 := Kd.foot_int h (i : Int) (by omega) (by omega)
  have hc2 := Kd.foot_int h (j : Int) (by omega) (by omega)
  rw [gn_rd, Int.toNat_natCast] at hc1 hc2
  have q1 : (i : Int) < (n : Int) := by omega
  have q2 : (j : Int) < (n : Int) := by omega
  clear h
  go_enter Tryd.func136, Tryd.ntmps136
  go_wp2_with fail
  go_quiet (fail)
  go_wp2_with fail
  go_ret
  exact ⟨rfl, ⟨_, rfl⟩⟩
abbrev FreeR (w : World) (base : Nat) (v : Value) (l : List Int) : Prop := Kd.R (Kd.int .i64) 3 w base (fun _ => True) v l
theorem FreeR.cell {w : World} {base g n c : Nat} {l : List Int} (h : FreeR w base (.slice (some ⟨g, 0, none⟩) n c) l) (i : Nat) (hi : i < n) : w.cell? ⟨g, i, none⟩ = some (.int .i64 (gn l i)) ∧ w.frozen? ⟨g, i, none⟩ = false := by
  have := Kd.R_celln (0 : Int) h (i : Int) (by omega) (by omega)
  rw [Int.toNat_natCast] at this
  exact this
theorem FreeR.put {w : World} {base g n c : Nat} {l : List Int} (h : FreeR w base (.slice (some ⟨g, 0, none⟩) n c) l) (i : Nat) (x : Int) : FreeR (w.setCell ⟨g, i, none⟩ (.int .i64 x)) base (.slice (some ⟨g, 0, none⟩) n c) (l.set i x) := by
  have := Kd.R_putn h (i : Int) x
  rw [Int.toNat_natCast] at this
  exact this
theorem FreeR.readsC {w : World} {base n c : Nat} {A : Option Addr} {l : List Int} (h : FreeR w base (.slice A n c) l) : (Kd.int .i64).C w A n l := by
  have h1 := Kd.R_reads' h
  have h2 : n = l.length := h1.1
  rw [h2]
  exact h1.2.2
theorem FreeR.len {w : World} {base n c : Nat} {A : Option Addr} {l : List Int} (h : FreeR w base (.slice A n c) l) : n = l.length := (Kd.R_reads' h).1
structure KB (w w1 : World) (g : Nat) : Prop where
  k : KeepBut w w1 g none
  b : Below 0 w w1
theorem KB.refl (w : World) (g : Nat) : KB w w g := ⟨KeepBut.refl _ _ _, Below.refl _ _⟩
theorem KB.set {w w1 : World} {g : Nat} (h : KB w w1 g) (i : Nat) (v : Value) : KB w (w1.setCell ⟨g, i, none⟩ v) g :=
  ⟨⟨by rw [World.size_setCell]; exact h.k.1, fun k hk hne hr => (Below.heap_setCell w1 ⟨g, i, none⟩ v k hne).trans (h.k.2 k hk hne hr)⟩, Below.setCell h.b (Nat.zero_le _) v⟩
theorem KB.then_ {w w1 w2 : World} {g : Nat} (h : KB w w1 g) (k : KB w1 w2 g) : KB w w2 g :=
  ⟨⟨Nat.le_trans h.k.1 k.k.1, fun x hx hne hr => (k.k.2 x (Nat.lt_of_lt_of_le hx h.k.1) hne hr).trans (h.k.2 x hx hne hr)⟩, h.b.trans k.b⟩
theorem KB.of_below {w w1 : World} (h : Below w.heap.size w w1) (g : Nat) : KB w w1 g := ⟨KeepBut.of_below h g none, h.mono (Nat.zero_le _)⟩
theorem KB.below {w w1 : World} {g base : Nat} (h : KB w w1 g) (h1 : base ≤ w.heap.size) (h2 : base ≤ g) : Below base w w1 :=
  ⟨h.b.os, h.b.tape, h.b.output, h.k.1, fun k hk => h.k.2 k (by omega) (by omega) (by simp)⟩
set_option maxHeartbeats 4000000 in
set_option maxRecDepth 100000 in
theorem swap_calls {w : World} {base g n c : Nat} {l : List Int} (hR : FreeR w base (.slice (some ⟨g, 0, none⟩) n c) l) (i j : Nat) (hi : i < n) (hj : j < n) :
    Calls Tryd.prog 137 #[.slice (some ⟨g, 0, none⟩) n c, .int .i64 (i : Int), .int .i64 (j : Int)] w fun e w' => e = .returned (.tuple #[]) ∧ FreeR w' base (.slice (some ⟨g, 0, none⟩) n c) (swapL l i j) ∧ KB w w' g := by
  have HR := Aside0.mk hR
  have q1 : (i : Int) < (n : Int) := by omega
  have q2 : (j : Int) < (n : Int) := by omega
  have HIJ := Aside0.mk (And.intro hi hj)
  clear hR hi hj
  go_enter Tryd.func137, Tryd.ntmps137
  by_cases hij : i = j
  · subst hij
    obtain ⟨a1, a2⟩ := FreeR.cell HR.out i HIJ.out.1
    obtain ⟨x, hx⟩ : ∃ x, x = gn l i := ⟨_, rfl⟩
    rw [← hx] at a1
    have HX := Aside0.mk hx
    clear hx q2
    go_wp2_with fail
    go_region
    refine bodyPost_end (results_none rfl _ _ _) rfl ?_
    have h1 := FreeR.put (FreeR.put HR.out i x) i x
    have h2 := ((KB.refl w g).set i (.int .i64 x)).set i (.int .i64 x)
    have hb := below_drew (Below.refl (((w.setCell ⟨g, i, none⟩ (.int .i64 x)).setCell ⟨g, i, none⟩ (.int .i64 x)).heap.size) ((w.setCell ⟨g, i, none⟩ (.int .i64 x)).setCell ⟨g, i, none⟩ (.int .i64 x)))
    refine ⟨rfl, ?_, h2.then_ (KB.of_below (below_drew (Below.refl _ _)) g)⟩
    unfold swapL
    rw [← HX.out]
    exact Kd.R_below h1 hb
  · have hji : ¬ j = i := fun h => hij h.symm
    obtain ⟨a1, a2⟩ := FreeR.cell HR.out i HIJ.out.1
    obtain ⟨b1, b2⟩ := FreeR.cell HR.out j HIJ.out.2
    obtain ⟨x, hx⟩ : ∃ x, x = gn l i := ⟨_, rfl⟩
    obtain ⟨y, hy⟩ : ∃ y, y = gn l j := ⟨_, rfl⟩
    rw [← hx] at a1
    rw [← hy] at b1
    have HXY := Aside0.mk (And.intro hx hy)
    clear hx hy
    go_wp2_with fail
    go_region
    refine bodyPost_end (results_none rfl _ _ _) rfl ?_
    have h1 := FreeR.put (FreeR.put HR.out i y) j x
    have h2 := ((KB.refl w g).set i (.int .i64 y)).set j (.int .i64 x)
    have hb := below_drew (Below.refl (((w.setCell ⟨g, i, none⟩ (.int .i64 y)).setCell ⟨g, j, none⟩ (.int .i64 x)).heap.size) ((w.setCell ⟨g, i, none⟩ (.int .i64 y)).setCell ⟨g, j, none⟩ (.int .i64 x)))
    refine ⟨rfl, ?_, h2.then_ (KB.of_below (below_drew (Below.refl _ _)) g)⟩
    unfold swapL
    rw [← HXY.out.1, ← HXY.out.2]
    exact Kd.R_below h1 hb
set_option maxHeartbeats 4000000 in
set_option maxRecDepth 100000 in
theorem up_calls {w : World} {p base : Nat} {size room : Int} {vc : Value} {g n c : Nat} {l : List Int} (h : ABlk w p size room vc (.slice (some ⟨g, 0, none⟩) n c)) (hR : FreeR w base (.slice (some ⟨g, 0, none⟩) n c) l) (j : Nat) (hj : j < n) (hn : n ≤ 4294967296) (hU : HeapUp n j l) :
    Calls Tryd.prog 82 #[.iface 91 (.pointer (some ⟨p, 3, none⟩)), .int .i64 (j : Int)] w fun e w' => e = .returned (.tuple #[]) ∧ ∃ l' : List Int, FreeR w' base (.slice (some ⟨g, 0, none⟩) n c) l' ∧ HeapN n l' ∧ l'.Perm l ∧ KB w w' g := by
  have HBk := Aside0.mk h
  have HR := Aside0.mk hR
  have HN := Aside0.mk hn
  have HU := Aside0.mk hU
  have HJ := Aside0.mk hj
  have HGP := Aside0.mk (show p ≠ g from fun e => by have := Kd.R_ne hR (e ▸ h) (by decide); simp [Value.ownBlock] at this)
  clear h hR hn hU hj
  go_enter Tryd.func82, Tryd.ntmps82
  go_wp2_with fail
  go_loopw [1] (fun v1 wr => ∃ (k : Nat) (m : List Int), k < n ∧ v1 = .int .i64 (k : Int) ∧ Aside0 (ABlk wr p size room vc (.slice (some ⟨g, 0, none⟩) n c)) ∧ Aside0 (FreeR wr base (.slice (some ⟨g, 0, none⟩) n c) m) ∧ Aside0 (HeapUp n k m ∧ m.Perm l ∧ KB w wr g)) (fun v1 _ => (intOf v1).toNat)
  case atStart => exact ⟨j, l, HJ.out, rfl, HBk, HR, ⟨HU.out, List.Perm.refl _, KB.refl _ _⟩⟩
  case round =>
    clear HBk HR HU HJ
    obtain ⟨k, m, hk, rfl, HBk, HR, HM⟩ := hrel
    obtain ⟨c0, c1, c2, c3⟩ := HBk.out.cells
    have hn := HN.out
    by_cases hk0 : k = 0
    · have hik : Int.tdiv ((k : Int) - 1) 2 = (k : Int) := by rw [hk0]; rfl
      have HFIN := Aside0.mk (HM.out.1.stop (.inl hk0))
      clear hk0
      go_wp2_with fail
      refine bodyPost_end (results_none rfl _ _ _) rfl ?_
      exact ⟨rfl, m, HR.out, HFIN.out, HM.out.2.1, HM.out.2.2⟩
    · obtain ⟨i, hi⟩ : ∃ i : Nat, i = (k - 1) / 2 := ⟨_, rfl⟩
      have hik : Int.tdiv ((k : Int) - 1) 2 = (i : Int) := by
        rw [Int.tdiv_eq_ediv_of_nonneg (by omega)]
        omega
      have hne : ((i : Int) == (k : Int)) = false := by
        rw [beq_eq_false_iff_ne]
        omega
      have hne2 : ¬ i = k := by omega
      have hwi : wrap64 (i : Int) = (i : Int) := by unfold wrap64; omega
      have HI := Aside0.mk hi
      have hin : i < n := by omega
      clear hi
      go_wp2_with ((rw [less_method _ c3]; go_upon))
      refine (less_calls (FreeR.readsC HR.out) k i hk hin).mono ?_
      rintro e w2 ⟨rfl, ⟨q, rfl⟩⟩
      have hb2 : Below wr.heap.size wr (wr.drewN q) := pw_below_drewN (Below.refl _ _) _
      have HB2 := Aside0.mk (HBk.out.below hb2)
      have HR2 := Aside0.mk (Kd.R_below HR.out hb2)
      have HK2 := Aside0.mk (HM.out.2.2.then_ (KB.of_below hb2 g))
      clear hb2
      by_cases hl : gn m k < gn m i
      · have hld := decide_eq_true hl
        have HST := Aside0.mk (show HeapUp n i (swapL m i k) by
          have h1 := HI.out
          have h2 := FreeR.len HR.out
          rw [h1] at hl
          rw [h1]
          exact HM.out.1.step (by omega) hk (by omega) hl)
        clear hl
        obtain ⟨c0, c1, c2, c3⟩ := HB2.out.cells
        go_wp2_with ((rw [swap_method _ c3]; go_upon))
        refine (swap_calls HR2.out i k hin hk).mono ?_
        rintro e w3 ⟨rfl, hR3, hK3⟩
        have HB3 := Aside0.mk (show ABlk w3 p size room vc (.slice (some ⟨g, 0, none⟩) n c) from hK3.k.blk HB2.out (HGP.out) (by simp))
        have HR3 := Aside0.mk hR3
        have HK3 := Aside0.mk (HK2.out.then_ hK3)
        have HP3 := Aside0.mk (show (swapL m i k).Perm l from (swapL_perm (by have := FreeR.len HR.out; omega) (by have := FreeR.len HR.out; omega)).trans HM.out.2.1)
        clear hR3 hK3
        go_wp2_with fail
        go_roundw
        case measure =>
          simp only [intOf]
          have := HI.out
          omega
        case rel => exact ⟨i, _, hin, rfl, HB3, HR3, ⟨HST.out, HP3.out, HK3.out⟩⟩
      · have hld := decide_eq_false hl
        have HFIN := Aside0.mk (HM.out.1.stop (.inr (by have := HI.out; rw [← this]; omega)))
        clear hl
        go_wp2_with fail
        refine bodyPost_end (results_none rfl _ _ _) rfl ?_
        exact ⟨rfl, m, HR2.out, HFIN.out, HM.out.2.1, HK2.out⟩
set_option maxHeartbeats 8000000 in
set_option maxRecDepth 100000 in
theorem down_calls {w : World} {p base : Nat} {size room : Int} {vc : Value} {g n c nn : Nat} {l : List Int} (h : ABlk w p size room vc (.slice (some ⟨g, 0, none⟩) n c)) (hR : FreeR w base (.slice (some ⟨g, 0, none⟩) n c) l) (hnn : nn ≤ n) (hn : n ≤ 4294967296) (hD : HeapDn nn 0 l) :
    Calls Tryd.prog 104 #[.iface 91 (.pointer (some ⟨p, 3, none⟩)), .int .i64 0, .int .i64 (nn : Int)] w fun e w' => (∃ b : Bool, e = .returned (.bool b)) ∧ ∃ l' : List Int, FreeR w' base (.slice (some ⟨g, 0, none⟩) n c) l' ∧ HeapN nn l' ∧ l'.Perm l ∧ (∀ k, nn ≤ k → gn l' k = gn l k) ∧ KB w w' g := by
  have HBk := Aside0.mk h
  have HR := Aside0.mk hR
  have HN := Aside0.mk (And.intro hnn hn)
  have HD := Aside0.mk hD
  have HGP := Aside0.mk (show p ≠ g from fun e => by have := Kd.R_ne hR (e ▸ h) (by decide); simp [Value.ownBlock] at this)
  clear h hR hn hnn hD
  go_enter Tryd.func104, Tryd.ntmps104
  go_wp2_with fail
  go_loopw [7] (fun v7 wr => ∃ (i : Nat) (m : List Int), v7 = .int .i64 (i : Int) ∧ i ≤ nn ∧ Aside0 (ABlk wr p size room vc (.slice (some ⟨g, 0, none⟩) n c)) ∧ Aside0 (FreeR wr base (.slice (some ⟨g, 0, none⟩) n c) m) ∧ Aside0 (HeapDn nn i m ∧ m.Perm l ∧ (∀ k, nn ≤ k → gn m k = gn l k) ∧ KB w wr g)) (fun v7 _ => nn - (intOf v7).toNat)
  case atStart => exact ⟨0, l, rfl, Nat.zero_le _, HBk, HR, ⟨HD.out, List.Perm.refl _, fun _ _ => rfl, KB.refl _ _⟩⟩
  case round =>
    clear HBk HR HD
    obtain ⟨i, m, rfl, hi, HBk, HR, HM⟩ := hrel
    obtain ⟨c0, c1, c2, c3⟩ := HBk.out.cells
    have hn := HN.out.2
    have hnn := HN.out.1
    by_cases hj : 2 * (i : Int) + 1 < (nn : Int)
    case neg =>
      have hjd : decide (2 * (i : Int) + 1 ≥ (nn : Int)) = true := decide_eq_true (by omega)
      have hjd2 : decide ((nn : Int) ≤ 2 * (i : Int) + 1) = true := decide_eq_true (by omega)
      have HFIN := Aside0.mk (HM.out.1.stop (fun k h0 hk hp => by omega))
      clear hj
      go_wp2_with fail
      go_ret
      exact ⟨⟨_, rfl⟩, m, HR.out, HFIN.out, HM.out.2.1, HM.out.2.2.1, HM.out.2.2.2⟩
    obtain ⟨j1, hj1⟩ : ∃ j : Nat, 2 * (i : Int) + 1 = (j : Int) := ⟨2 * i + 1, by omega⟩
    obtain ⟨j2, hj2⟩ : ∃ j : Nat, (j1 : Int) + 1 = (j : Int) := ⟨j1 + 1, by omega⟩
    have hjd : decide ((j1 : Int) ≥ (nn : Int)) = false := decide_eq_false (by omega)
    have hjd2 : decide (nn ≤ j1) = false := decide_eq_false (by omega)
    have hwj1 : wrap64 (j1 : Int) = (j1 : Int) := by unfold wrap64; omega
    have hwj2 : wrap64 (j2 : Int) = (j2 : Int) := by unfold wrap64; omega
    have hj0 : decide ((j1 : Int) < 0) = false := decide_eq_false (by omega)
    have HJJ := Aside0.mk (show j1 = 2 * i + 1 ∧ j2 = 2 * i + 2 ∧ j1 < nn ∧ nn ≤ n ∧ (j2 < nn → j2 < n) from by omega)
    clear hj
    by_cases h2 : j2 < nn
    · have h2d : decide ((j2 : Int) < (nn : Int)) = true := decide_eq_true (by omega)
      have h2e : decide (j2 < nn) = true := decide_eq_true h2
      replace HJJ := Aside0.mk (And.intro h2 HJJ.out)
      clear h2
      by_cases hc : gn m j2 < gn m j1
      · have hcd := decide_eq_true hc
        have HJ := Aside0.mk (show 0 < j2 ∧ j2 < nn ∧ (j2 - 1) / 2 = i ∧ ∀ k, 0 < k → k < nn → (k - 1) / 2 = i → gn m j2 ≤ gn m k from ⟨by have := HJJ.out; omega, by have := HJJ.out; omega, by have := HJJ.out; omega, fun k h0 hk hp => by
          have h3 := HJJ.out
          obtain rfl | rfl : k = j1 ∨ k = j2 := by omega
          · omega
          · omega⟩)
        clear hc
        obtain ⟨c0, c1, c2, c3⟩ := HBk.out.cells
        go_wp2_with ((rw [less_method _ c3]; go_upon))
        refine (less_calls (FreeR.readsC HR.out) j2 j1 (by have := HJJ.out; omega) (by have := HJJ.out; omega)).mono ?_
        rintro e w2 ⟨rfl, ⟨q0, rfl⟩⟩
        have hb2 : Below wr.heap.size wr (wr.drewN q0) := pw_below_drewN (Below.refl _ _) _
        replace HBk := Aside0.mk (HBk.out.below hb2)
        replace HR := Aside0.mk (Kd.R_below HR.out hb2)
        replace HM := Aside0.mk (And.intro HM.out.1 (And.intro HM.out.2.1 (And.intro HM.out.2.2.1 (HM.out.2.2.2.then_ (KB.of_below hb2 g)))))
        clear hb2 c0 c1 c2 c3
        generalize hgw : wr.drewN q0 = w2 at HBk HR HM ⊢
        clear hgw
        by_cases hl : gn m j2 < gn m i
        · have hld := decide_eq_true hl
          have HST := Aside0.mk (show HeapDn nn j2 (swapL m i j2) from HM.out.1.step (HJ.out.1) (HJ.out.2.1) (by have := FreeR.len HR.out; omega) (HJ.out.2.2.1) hl (HJ.out.2.2.2))
          clear hl
          obtain ⟨c0, c1, c2, c3⟩ := HBk.out.cells
          go_wp2_with ((rw [less_method _ c3]; go_upon))
          refine (less_calls (FreeR.readsC HR.out) j2 i (by have := HJ.out; omega) (by have := HJ.out; omega)).mono ?_
          rintro e WY ⟨rfl, ⟨q, rfl⟩⟩
          have hb2 : Below w2.heap.size w2 (w2.drewN q) := pw_below_drewN (Below.refl _ _) _
          replace HBk := Aside0.mk (HBk.out.below hb2)
          replace HR := Aside0.mk (Kd.R_below HR.out hb2)
          replace HM := Aside0.mk (And.intro HM.out.1 (And.intro HM.out.2.1 (And.intro HM.out.2.2.1 (HM.out.2.2.2.then_ (KB.of_below hb2 g)))))
          clear hb2 c0 c1 c2 c3
          obtain ⟨c0, c1, c2, c3⟩ := HBk.out.cells
          go_wp2_with ((rw [swap_method _ c3]; go_upon))
          refine (swap_calls HR.out i j2 (by have := HJ.out; omega) (by have := HJ.out; omega)).mono ?_
          rintro e w3 ⟨rfl, hR3, hK3⟩
          have HB3 := Aside0.mk (show ABlk w3 p size room vc (.slice (some ⟨g, 0, none⟩) n c) from hK3.k.blk HBk.out (HGP.out) (by simp))
          have HR3 := Aside0.mk hR3
          have HK3 := Aside0.mk (HM.out.2.2.2.then_ hK3)
          have hlen := FreeR.len HR.out
          have HP3 := Aside0.mk (show (swapL m i j2).Perm l from (swapL_perm (by have := HJ.out; omega) (by have := HJ.out; omega)).trans HM.out.2.1)
          have HG3 := Aside0.mk (show ∀ k, nn ≤ k → gn (swapL m i j2) k = gn l k from fun k hk => by
            rw [gn_swap (by have := HJ.out; omega) (by have := HJ.out; omega), if_neg (by have := HJ.out; omega), if_neg (by have := HJ.out; omega)]
            exact HM.out.2.2.1 k hk)
          clear hR3 hK3 hlen
          go_wp2_with fail
          have hjj := HJ.out
          go_roundw
          case measure => simp only [intOf]; omega
          case rel => exact ⟨j2, _, rfl, by omega, HB3, HR3, ⟨HST.out, HP3.out, HG3.out, HK3.out⟩⟩
        · have hld := decide_eq_false hl
          have HFIN := Aside0.mk (HM.out.1.stop (fun k h0 hk hp => Int.le_trans (by omega) (HJ.out.2.2.2 k h0 hk hp)))
          clear hl
          obtain ⟨c0, c1, c2, c3⟩ := HBk.out.cells
          go_wp2_with ((rw [less_method _ c3]; go_upon))
          refine (less_calls (FreeR.readsC HR.out) j2 i (by have := HJ.out; omega) (by have := HJ.out; omega)).mono ?_
          rintro e WY ⟨rfl, ⟨q, rfl⟩⟩
          have hb2 : Below w2.heap.size w2 (w2.drewN q) := pw_below_drewN (Below.refl _ _) _
          replace HR := Aside0.mk (Kd.R_below HR.out hb2)
          replace HM := Aside0.mk (And.intro HM.out.1 (And.intro HM.out.2.1 (And.intro HM.out.2.2.1 (HM.out.2.2.2.then_ (KB.of_below hb2 g)))))
          clear hb2
          go_wp2_with fail
          go_ret
          exact ⟨⟨_, rfl⟩, m, HR.out, HFIN.out, HM.out.2.1, HM.out.2.2.1, HM.out.2.2.2⟩
      · have hcd := decide_eq_false hc
        have HJ := Aside0.mk (show 0 < j1 ∧ j1 < nn ∧ (j1 - 1) / 2 = i ∧ ∀ k, 0 < k → k < nn → (k - 1) / 2 = i → gn m j1 ≤ gn m k from ⟨by have := HJJ.out; omega, by have := HJJ.out; omega, by have := HJJ.out; omega, fun k h0 hk hp => by
          have h3 := HJJ.out
          obtain rfl | rfl : k = j1 ∨ k = j2 := by omega
          · omega
          · omega⟩)
        clear hc
        obtain ⟨c0, c1, c2, c3⟩ := HBk.out.cells
        go_wp2_with ((rw [less_method _ c3]; go_upon))
        refine (less_calls (FreeR.readsC HR.out) j2 j1 (by have := HJJ.out; omega) (by have := HJJ.out; omega)).mono ?_
        rintro e w2 ⟨rfl, ⟨q0, rfl⟩⟩
        have hb2 : Below wr.heap.size wr (wr.drewN q0) := pw_below_drewN (Below.refl _ _) _
        replace HBk := Aside0.mk (HBk.out.below hb2)
        replace HR := Aside0.mk (Kd.R_below HR.out hb2)
        replace HM := Aside0.mk (And.intro HM.out.1 (And.intro HM.out.2.1 (And.intro HM.out.2.2.1 (HM.out.2.2.2.then_ (KB.of_below hb2 g)))))
        clear hb2 c0 c1 c2 c3
        generalize hgw : wr.drewN q0 = w2 at HBk HR HM ⊢
        clear hgw
        by_cases hl : gn m j1 < gn m i
        · have hld := decide_eq_true hl
          have HST := Aside0.mk (show HeapDn nn j1 (swapL m i j1) from HM.out.1.step (HJ.out.1) (HJ.out.2.1) (by have := FreeR.len HR.out; omega) (HJ.out.2.2.1) hl (HJ.out.2.2.2))
          clear hl
          obtain ⟨c0, c1, c2, c3⟩ := HBk.out.cells
          go_wp2_with ((rw [less_method _ c3]; go_upon))
          refine (less_calls (FreeR.readsC HR.out) j1 i (by have := HJ.out; omega) (by have := HJ.out; omega)).mono ?_
          rintro e WY ⟨rfl, ⟨q, rfl⟩⟩
          have hb2 : Below w2.heap.size w2 (w2.drewN q) := pw_below_drewN (Below.refl _ _) _
          replace HBk := Aside0.mk (HBk.out.below hb2)
          replace HR := Aside0.mk (Kd.R_below HR.out hb2)
          replace HM := Aside0.mk (And.intro HM.out.1 (And.intro HM.out.2.1 (And.intro HM.out.2.2.1 (HM.out.2.2.2.then_ (KB.of_below hb2 g)))))
          clear hb2 c0 c1 c2 c3
          obtain ⟨c0, c1, c2, c3⟩ := HBk.out.cells
          go_wp2_with ((rw [swap_method _ c3]; go_upon))
          refine (swap_calls HR.out i j1 (by have := HJ.out; omega) (by have := HJ.out; omega)).mono ?_
          rintro e w3 ⟨rfl, hR3, hK3⟩
          have HB3 := Aside0.mk (show ABlk w3 p size room vc (.slice (some ⟨g, 0, none⟩) n c) from hK3.k.blk HBk.out (HGP.out) (by simp))
          have HR3 := Aside0.mk hR3
          have HK3 := Aside0.mk (HM.out.2.2.2.then_ hK3)
          have hlen := FreeR.len HR.out
          have HP3 := Aside0.mk (show (swapL m i j1).Perm l from (swapL_perm (by have := HJ.out; omega) (by have := HJ.out; omega)).trans HM.out.2.1)
          have HG3 := Aside0.mk (show ∀ k, nn ≤ k → gn (swapL m i j1) k = gn l k from fun k hk => by
            rw [gn_swap (by have := HJ.out; omega) (by have := HJ.out; omega), if_neg (by have := HJ.out; omega), if_neg (by have := HJ.out; omega)]
            exact HM.out.2.2.1 k hk)
          clear hR3 hK3 hlen
          go_wp2_with fail
          have hjj := HJ.out
          go_roundw
          case measure => simp only [intOf]; omega
          case rel => exact ⟨j1, _, rfl, by omega, HB3, HR3, ⟨HST.out, HP3.out, HG3.out, HK3.out⟩⟩
        · have hld := decide_eq_false hl
          have HFIN := Aside0.mk (HM.out.1.stop (fun k h0 hk hp => Int.le_trans (by omega) (HJ.out.2.2.2 k h0 hk hp)))
          clear hl
          obtain ⟨c0, c1, c2, c3⟩ := HBk.out.cells
          go_wp2_with ((rw [less_method _ c3]; go_upon))
          refine (less_calls (FreeR.readsC HR.out) j1 i (by have := HJ.out; omega) (by have := HJ.out; omega)).mono ?_
          rintro e WY ⟨rfl, ⟨q, rfl⟩⟩
          have hb2 : Below w2.heap.size w2 (w2.drewN q) := pw_below_drewN (Below.refl _ _) _
          replace HR := Aside0.mk (Kd.R_below HR.out hb2)
          replace HM := Aside0.mk (And.intro HM.out.1 (And.intro HM.out.2.1 (And.intro HM.out.2.2.1 (HM.out.2.2.2.then_ (KB.of_below hb2 g)))))
          clear hb2
          go_wp2_with fail
          go_ret
          exact ⟨⟨_, rfl⟩, m, HR.out, HFIN.out, HM.out.2.1, HM.out.2.2.1, HM.out.2.2.2⟩
    · have h2d : decide ((j2 : Int) < (nn : Int)) = false := decide_eq_false (by omega)
      have h2e : decide (j2 < nn) = false := decide_eq_false h2
      have HJ := Aside0.mk (show 0 < j1 ∧ j1 < nn ∧ (j1 - 1) / 2 = i ∧ ∀ k, 0 < k → k < nn → (k - 1) / 2 = i → gn m j1 ≤ gn m k from ⟨by have := HJJ.out; omega, by have := HJJ.out; omega, by have := HJJ.out; omega, fun k h0 hk hp => by
        have h3 := HJJ.out
        obtain rfl : k = j1 := by omega
        omega⟩)
      clear h2
      by_cases hl : gn m j1 < gn m i
      · have hld := decide_eq_true hl
        have HST := Aside0.mk (show HeapDn nn j1 (swapL m i j1) from HM.out.1.step (HJ.out.1) (HJ.out.2.1) (by have := FreeR.len HR.out; omega) (HJ.out.2.2.1) hl (HJ.out.2.2.2))
        clear hl
        obtain ⟨c0, c1, c2, c3⟩ := HBk.out.cells
        go_wp2_with ((rw [less_method _ c3]; go_upon))
        refine (less_calls (FreeR.readsC HR.out) j1 i (by have := HJ.out; omega) (by have := HJ.out; omega)).mono ?_
        rintro e WY ⟨rfl, ⟨q, rfl⟩⟩
        have hb2 : Below wr.heap.size wr (wr.drewN q) := pw_below_drewN (Below.refl _ _) _
        replace HBk := Aside0.mk (HBk.out.below hb2)
        replace HR := Aside0.mk (Kd.R_below HR.out hb2)
        replace HM := Aside0.mk (And.intro HM.out.1 (And.intro HM.out.2.1 (And.intro HM.out.2.2.1 (HM.out.2.2.2.then_ (KB.of_below hb2 g)))))
        clear hb2 c0 c1 c2 c3
        obtain ⟨c0, c1, c2, c3⟩ := HBk.out.cells
        go_wp2_with ((rw [swap_method _ c3]; go_upon))
        refine (swap_calls HR.out i j1 (by have := HJ.out; omega) (by have := HJ.out; omega)).mono ?_
        rintro e w3 ⟨rfl, hR3, hK3⟩
        have HB3 := Aside0.mk (show ABlk w3 p size room vc (.slice (some ⟨g, 0, none⟩) n c) from hK3.k.blk HBk.out (HGP.out) (by simp))
        have HR3 := Aside0.mk hR3
        have HK3 := Aside0.mk (HM.out.2.2.2.then_ hK3)
        have hlen := FreeR.len HR.out
        have HP3 := Aside0.mk (show (swapL m i j1).Perm l from (swapL_perm (by have := HJ.out; omega) (by have := HJ.out; omega)).trans HM.out.2.1)
        have HG3 := Aside0.mk (show ∀ k, nn ≤ k → gn (swapL m i j1) k = gn l k from fun k hk => by
          rw [gn_swap (by have := HJ.out; omega) (by have := HJ.out; omega), if_neg (by have := HJ.out; omega), if_neg (by have := HJ.out; omega)]
          exact HM.out.2.2.1 k hk)
        clear hR3 hK3 hlen
        go_wp2_with fail
        have hjj := HJ.out
        go_roundw
        case measure => simp only [intOf]; omega
        case rel => exact ⟨j1, _, rfl, by omega, HB3, HR3, ⟨HST.out, HP3.out, HG3.out, HK3.out⟩⟩
      · have hld := decide_eq_false hl
        have HFIN := Aside0.mk (HM.out.1.stop (fun k h0 hk hp => Int.le_trans (by omega) (HJ.out.2.2.2 k h0 hk hp)))
        clear hl
        obtain ⟨c0, c1, c2, c3⟩ := HBk.out.cells
        go_wp2_with ((rw [less_method _ c3]; go_upon))
        refine (less_calls (FreeR.readsC HR.out) j1 i (by have := HJ.out; omega) (by have := HJ.out; omega)).mono ?_
        rintro e WY ⟨rfl, ⟨q, rfl⟩⟩
        have hb2 : Below wr.heap.size wr (wr.drewN q) := pw_below_drewN (Below.refl _ _) _
        replace HR := Aside0.mk (Kd.R_below HR.out hb2)
        replace HM := Aside0.mk (And.intro HM.out.1 (And.intro HM.out.2.1 (And.intro HM.out.2.2.1 (HM.out.2.2.2.then_ (KB.of_below hb2 g)))))
        clear hb2
        go_wp2_with fail
        go_ret
        exact ⟨⟨_, rfl⟩, m, HR.out, HFIN.out, HM.out.2.1, HM.out.2.2.1, HM.out.2.2.2⟩
end Go.Proofs.YtdeneoknjeegbaaDoor.P
end
