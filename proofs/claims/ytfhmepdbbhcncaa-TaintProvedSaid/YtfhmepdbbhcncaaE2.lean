import Derived.Test.YtfhmepdbbhcncaaE1
namespace Go.Proofs.Ytfhmepdbbhcncaa.P
open Go.RowKit Go.Proofs.YtfhmepdbbhcncaaW.PrintWords Go.Proofs.YtfhmepdbbhcncaaW.PrintLast Go.Proofs.YtfhmepdbbhcncaaW.PrintMore
set_option linter.unusedVariables false
set_option linter.unusedSimpArgs false

set_option maxHeartbeats 400000 in
set_option maxRecDepth 100000 in
theorem within_lit (w : World) (b1 b2 : Nat) (lo hi : Int) (h1 : b1 < w.heap.size) (h2 : b2 < w.heap.size)
    (c1 : w.cell? ⟨b1, 0, none⟩ = some (.int .i64 lo)) (c2 : w.cell? ⟨b2, 0, none⟩ = some (.int .i64 hi)) :
    PredB 70 #[.pointer (some ⟨b1, 0, none⟩), .pointer (some ⟨b2, 0, none⟩)] (Value.int .i64) (fun n => decide (n < lo) || decide (hi < n)) w := by
  intro W x hb
  have d1 : W.cell? ⟨b1, 0, none⟩ = some (.int .i64 lo) := (hb.cell (p := ⟨b1, 0, none⟩) h1).trans c1
  have d2 : W.cell? ⟨b2, 0, none⟩ = some (.int .i64 hi) := (hb.cell (p := ⟨b2, 0, none⟩) h2).trans c2
  clear c1 c2 hb h1 h2
  show Calls Try.prog 70 #[.int .i64 x, .pointer (some ⟨b1, 0, none⟩), .pointer (some ⟨b2, 0, none⟩)] W _
  by_cases hx : x < lo
  · have t1 : decide (x < lo) = true := by simp [hx]
    go_enter Try.func70, Try.ntmps70
    go_wp2
    go_ret
    exact ⟨by simp [t1], Below.refl _ _⟩
  · have t1 : decide (x < lo) = false := by simp [hx]
    go_enter Try.func70, Try.ntmps70
    go_wp2
    go_ret
    exact ⟨by simp [t1], Below.refl _ _⟩

/-- all numbers from lo to hi -/
def withinB (lo hi : Int) (l : List Int) : Bool := l.all fun n => decide (lo ≤ n) && decide (n ≤ hi)
theorem withinB_eq (lo hi : Int) (l : List Int) : (!l.any fun n => decide (n < lo) || decide (hi < n)) = withinB lo hi l := by
  unfold withinB
  rw [List.all_eq_not_any_not]
  congr 1
  congr 1
  funext n
  rw [Bool.eq_iff_iff]
  simp

set_option maxHeartbeats 400000 in
set_option maxRecDepth 100000 in
theorem within_calls (lo hi : Int) (A : Option Addr) (c : Nat) (l : List Int) (w : World)
    (hr : Kd.C (Kd.int .i64) w A l.length l) :
    Calls Try.prog 49 #[.int .i64 lo, .int .i64 hi, .slice A l.length c] w fun e w' => e = .returned (.bool (withinB lo hi l)) ∧ Below w.heap.size w w' := by
  have HB : Below w.heap.size w ((w.alloc (.cells #[.int .i64 lo] 2)).alloc (.cells #[.int .i64 hi] 2)) := ((Below.refl w.heap.size w).alloc (Nat.le_refl _) _).alloc (by simp) _
  have H := Lib.hid (ContainsFunc58 70 _ _ A c l _ (enters_of Try.func70 (by kernel_rfl) rfl) (Kd.C_below hr HB)
    (within_lit ((w.alloc (.cells #[.int .i64 lo] 2)).alloc (.cells #[.int .i64 hi] 2)) w.heap.size (w.heap.size + 1) lo hi (by simp; omega) (by simp) (by simp) (by simp)))
  have HQ := Lib.hid (withinB_eq lo hi l)
  have HB' := Lib.hid HB
  clear hr HB
  go_enter Try.func49, Try.ntmps49
  go_wp2_with (go_at_call 58; refine (H.out).mono ?_; rintro e w' ⟨rfl, hb⟩)
  go_ret
  exact ⟨by rw [← HQ.out]; rfl, HB'.out.trans (hb.mono HB'.out.size)⟩

theorem within_one (lo hi x : Int) (b : Nat) (c : Nat) (w : World) (h : w.cell? ⟨b, 0, none⟩ = some (.int .i64 x)) :
    Calls Try.prog 49 #[.int .i64 lo, .int .i64 hi, .slice (some ⟨b, 0, none⟩) 1 c] w fun e w' => e = .returned (.bool (withinB lo hi [x])) ∧ Below w.heap.size w w' :=
  within_calls lo hi _ c [x] w (kdC_one h)
theorem within_two (lo hi x y : Int) (b : Nat) (c : Nat) (w : World) (h : w.cell? ⟨b, 0, none⟩ = some (.int .i64 x)) (h' : w.cell? ⟨b, 1, none⟩ = some (.int .i64 y)) :
    Calls Try.prog 49 #[.int .i64 lo, .int .i64 hi, .slice (some ⟨b, 0, none⟩) 2 c] w fun e w' => e = .returned (.bool (withinB lo hi [x, y])) ∧ Below w.heap.size w w' :=
  within_calls lo hi _ c [x, y] w (kdC_two h h')

/-- a move that is not valid, among n vessels -/
def badMove (n : Int) (m : S58) : Bool := !withinB 0 (n - 1) [m.f0, m.f1] || decide (m.f0 = m.f1) || !withinB 0 100000 [m.f2.f0, m.f2.f1] || decide (m.f2.f1 < m.f2.f0)

theorem bcell {w w1 : World} {B : Nat} (hb : Below B w w1) : (∀ b o, b < B → w1.cell? ⟨b, o, none⟩ = w.cell? ⟨b, o, none⟩) ∧ (∀ b o, b < B → w1.frozen? ⟨b, o, none⟩ = w.frozen? ⟨b, o, none⟩) :=
  ⟨fun b o h => hb.cell (p := ⟨b, o, none⟩) h, fun b o h => hb.frozen (p := ⟨b, o, none⟩) h⟩

set_option maxHeartbeats 800000 in
set_option maxRecDepth 100000 in
theorem bad_lit (w : World) (b : Nat) (n : Int) (hn : 1 ≤ n) (hn2 : n ≤ 20) (h1 : b < w.heap.size)
    (c1 : w.cell? ⟨b, 0, none⟩ = some (.int .i64 n)) :
    PredB 48 #[.pointer (some ⟨b, 0, none⟩)] enc58 (badMove n) w := by
  intro W x hb
  have d1 : W.cell? ⟨b, 0, none⟩ = some (.int .i64 n) := (hb.cell (p := ⟨b, 0, none⟩) h1).trans c1
  have hbl : b < W.heap.size := Nat.lt_of_lt_of_le h1 hb.size
  clear c1 hb h1
  rcases x with ⟨f, t, ⟨lo, hi⟩⟩
  show Calls Try.prog 48 #[.agg #[.int .i64 f, .int .i64 t, .int .i64 lo, .int .i64 hi], .pointer (some ⟨b, 0, none⟩)] W _
  cases ha : withinB 0 (n - 1) [f, t]
  · have F := Lib.hid (show badMove n ⟨f, t, ⟨lo, hi⟩⟩ = true by simp [badMove, ha])
    go_enter Try.func48, Try.ntmps48
    go_wp2_with (go_at_call 49; refine (within_two _ _ f t _ _ _ ?_ ?_).mono ?_; (focus (go_simp; done)); (focus (go_simp; done)); rintro e w1 ⟨rfl, hb1⟩; rw [ha])
    go_ret
    exact ⟨by rw [F.out]; rfl, Below.trans (((Below.refl W.heap.size W).alloc (Nat.le_refl _) _).alloc (by simp) _) (hb1.mono (by simp; omega))⟩
  · by_cases hft : f = t
    · have F := Lib.hid (show badMove n ⟨f, t, ⟨lo, hi⟩⟩ = true by simp [badMove, hft])
      have hq : (f == t) = true := by simp [hft]
      clear hft
      go_enter Try.func48, Try.ntmps48
      go_wp2_with (go_at_call 49; refine (within_two _ _ f t _ _ _ ?_ ?_).mono ?_; (focus (go_simp; done)); (focus (go_simp; done)); rintro e w1 ⟨rfl, hb1⟩; rw [ha]; obtain ⟨hc, hf⟩ := bcell hb1)
      go_ret
      exact ⟨by rw [F.out]; rfl, Below.trans (((Below.refl W.heap.size W).alloc (Nat.le_refl _) _).alloc (by simp) _) (hb1.mono (by simp; omega))⟩
    · have hq : (f == t) = false := by simp [hft]
      cases hc2 : withinB 0 100000 [lo, hi]
      · have F := Lib.hid (show badMove n ⟨f, t, ⟨lo, hi⟩⟩ = true by simp [badMove, hc2])
        clear hft
        go_enter Try.func48, Try.ntmps48
        go_wp2_with fail
        refine (within_two _ _ f t _ _ _ ?_ ?_).mono ?_
        focus (go_simp; done)
        focus (go_simp; done)
        rintro e w1 ⟨rfl, hb1⟩
        rw [ha]
        obtain ⟨hc, hf⟩ := bcell hb1
        have hz := hb1.size
        simp only [World.size_alloc] at hz
        go_wp2_with fail
        refine (within_two _ _ lo hi _ _ _ ?_ ?_).mono ?_
        focus (go_simp; done)
        focus (go_simp; done)
        rintro e w2 ⟨rfl, hb2⟩
        rw [hc2]
        clear hc hf
        obtain ⟨hc, hf⟩ := bcell hb2
        go_wp2
        go_ret
        exact ⟨by rw [F.out]; rfl, by
          refine Below.trans (((Below.refl W.heap.size W).alloc (Nat.le_refl _) _).alloc (by simp) _) ((hb1.mono (by simp; omega)).trans ?_)
          exact ((Below.refl _ _).alloc (by omega) _).trans (hb2.mono (by simp; omega))⟩
      · have F := Lib.hid (show badMove n ⟨f, t, ⟨lo, hi⟩⟩ = decide (hi < lo) by simp [badMove, hc2, ha, hft])
        clear hft
        go_enter Try.func48, Try.ntmps48
        go_wp2_with fail
        refine (within_two _ _ f t _ _ _ ?_ ?_).mono ?_
        focus (go_simp; done)
        focus (go_simp; done)
        rintro e w1 ⟨rfl, hb1⟩
        rw [ha]
        obtain ⟨hc, hf⟩ := bcell hb1
        have hz := hb1.size
        simp only [World.size_alloc] at hz
        go_wp2_with fail
        refine (within_two _ _ lo hi _ _ _ ?_ ?_).mono ?_
        focus (go_simp; done)
        focus (go_simp; done)
        rintro e w2 ⟨rfl, hb2⟩
        rw [hc2]
        clear hf
        have e2 : ∀ o, w2.cell? ⟨W.heap.size, o, none⟩ = w1.cell? ⟨W.heap.size, o, none⟩ := fun o => (hb2.cell (p := ⟨W.heap.size, o, none⟩) (by simp; omega)).trans (((Below.refl w1.heap.size w1).alloc (Nat.le_refl _) _).cell (p := ⟨W.heap.size, o, none⟩) (by show W.heap.size < _; omega))
        go_wp2
        go_ret
        exact ⟨by rw [F.out]; rfl, by
          refine Below.trans (((Below.refl W.heap.size W).alloc (Nat.le_refl _) _).alloc (by simp) _) ((hb1.mono (by simp; omega)).trans ?_)
          exact ((Below.refl _ _).alloc (by omega) _).trans (hb2.mono (by simp; omega))⟩

/-- what CheckYard answers -/
def checkYard (n : Int) (l : List S58) : Int :=
  if n < 1 ∨ 20 < n then 2 else if 40 < l.length then 6 else if l.any (badMove n) then 3 else 0

set_option maxHeartbeats 800000 in
set_option maxRecDepth 100000 in
theorem checkYard_calls (a0_0 : Int) (A0_1 : Option Addr) (c0_1 : Nat) (l0_1 : List S58) (w : World) (hr0_1 : Kd.C k58 w A0_1 l0_1.length l0_1) :
    Calls Try.prog 16 #[.agg #[.int .i64 a0_0, .slice A0_1 l0_1.length c0_1]] w fun e w' => e = .returned (.int .i64 (checkYard a0_0 l0_1)) ∧ Below w.heap.size w w' := by
  by_cases h1 : a0_0 < 1
  · have F := Lib.hid (show checkYard a0_0 l0_1 = 2 by simp [checkYard, h1])
    go_enter Try.func16, Try.ntmps16
    go_wp2
    go_ret
    exact ⟨by rw [F.out]; rfl, (Below.refl _ _).alloc (Nat.le_refl _) _⟩
  · by_cases h2 : 20 < a0_0
    · have F := Lib.hid (show checkYard a0_0 l0_1 = 2 by simp [checkYard, h2])
      go_enter Try.func16, Try.ntmps16
      go_wp2
      go_ret
      exact ⟨by rw [F.out]; rfl, (Below.refl _ _).alloc (Nat.le_refl _) _⟩
    · by_cases h3 : 40 < l0_1.length
      · have F := Lib.hid (show checkYard a0_0 l0_1 = 6 by simp [checkYard, h1, h2, h3])
        have t3 : decide (40 < l0_1.length) = true := by simp [h3]
        go_enter Try.func16, Try.ntmps16
        go_wp2
        go_ret
        exact ⟨by rw [F.out]; rfl, (Below.refl _ _).alloc (Nat.le_refl _) _⟩
      · have t3 : decide (40 < l0_1.length) = false := by simp [h3]
        have H := Lib.hid (ContainsFunc50 48 #[.pointer (some ⟨w.heap.size, 0, none⟩)] (badMove a0_0) A0_1 c0_1 l0_1 (w.alloc (.cells #[.int .i64 a0_0, .slice A0_1 l0_1.length c0_1] 24)) (enters_of Try.func48 (by kernel_rfl) rfl)
          (Kd.C_below hr0_1 ((Below.refl _ _).alloc (Nat.le_refl _) _)) (bad_lit _ _ a0_0 (by omega) (by omega) (by simp) (by simp)))
        cases h4 : l0_1.any (badMove a0_0)
        · have F := Lib.hid (show checkYard a0_0 l0_1 = 0 by simp only [checkYard, h1, h2, h3, h4]; simp)
          have G := Lib.hid h4
          clear h4 hr0_1
          go_enter Try.func16, Try.ntmps16
          go_wp2_with (go_at_call 50; refine (H.out).mono ?_; rintro e w1 ⟨rfl, hb1⟩; rw [G.out])
          go_ret
          exact ⟨by rw [F.out]; rfl, ((Below.refl _ _).alloc (Nat.le_refl _) _).trans (hb1.mono (by simp))⟩
        · have F := Lib.hid (show checkYard a0_0 l0_1 = 3 by simp only [checkYard, h1, h2, h3, h4]; simp)
          have G := Lib.hid h4
          clear h4 hr0_1
          go_enter Try.func16, Try.ntmps16
          go_wp2_with (go_at_call 50; refine (H.out).mono ?_; rintro e w1 ⟨rfl, hb1⟩; rw [G.out])
          go_ret
          exact ⟨by rw [F.out]; rfl, ((Below.refl _ _).alloc (Nat.le_refl _) _).trans (hb1.mono (by simp))⟩
end Go.Proofs.Ytfhmepdbbhcncaa.P
