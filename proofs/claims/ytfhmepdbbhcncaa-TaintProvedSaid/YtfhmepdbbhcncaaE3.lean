import Derived.Test.YtfhmepdbbhcncaaE2
import Derived.Laws.EntriesVeiled
namespace Go.Proofs.Ytfhmepdbbhcncaa.P
open Go.RowKit Go.Proofs.YtfhmepdbbhcncaaW.PrintWords Go.Proofs.YtfhmepdbbhcncaaW.PrintLast Go.Proofs.YtfhmepdbbhcncaaW.PrintMore
set_option linter.unusedVariables false
set_option linter.unusedSimpArgs false

/-- is a number a vessel -/
def isV (n v : Int) : Bool := decide (0 ≤ v) && decide (v < n)

set_option maxHeartbeats 400000 in
set_option maxRecDepth 100000 in
theorem is_call (W : World) (b : Nat) (n x : Int) (d1 : W.cell? ⟨b, 0, none⟩ = some (.int .i64 n)) :
    Calls Try.prog 72 #[.int .i64 x, .pointer (some ⟨b, 0, none⟩)] W fun e w' => e = .returned (.bool (isV n x)) ∧ Below W.heap.size W w' := by
  by_cases hx : 0 ≤ x
  · have F := Lib.hid (show isV n x = decide (x < n) by simp [isV, hx])
    go_enter Try.func72, Try.ntmps72
    go_wp2
    go_ret
    exact ⟨by rw [F.out]; rfl, Below.refl _ _⟩
  · have F := Lib.hid (show isV n x = false by simp [isV, hx])
    go_enter Try.func72, Try.ntmps72
    go_wp2
    go_ret
    exact ⟨by rw [F.out]; rfl, Below.refl _ _⟩
theorem is_lit (w : World) (b : Nat) (n : Int) (h1 : b < w.heap.size) (c1 : w.cell? ⟨b, 0, none⟩ = some (.int .i64 n)) :
    PredB 72 #[.pointer (some ⟨b, 0, none⟩)] (Value.int .i64) (isV n) w :=
  fun W x hb => is_call W b n x ((hb.cell (p := ⟨b, 0, none⟩) h1).trans c1)

set_option maxHeartbeats 400000 in
set_option maxRecDepth 100000 in
theorem isnt_lit (w : World) (b b2 : Nat) (n : Int) (h1 : b < w.heap.size) (h2 : b2 < w.heap.size) (c1 : w.cell? ⟨b, 0, none⟩ = some (.int .i64 n))
    (c2 : w.cell? ⟨b2, 0, none⟩ = some (.func (.func 72) #[] #[.pointer (some ⟨b, 0, none⟩)])) :
    PredB 73 #[.pointer (some ⟨b2, 0, none⟩)] (Value.int .i64) (fun v => !isV n v) w := by
  intro W x hb
  have d1 : W.cell? ⟨b2, 0, none⟩ = some (.func (.func 72) #[] #[.pointer (some ⟨b, 0, none⟩)]) := (hb.cell (p := ⟨b2, 0, none⟩) h2).trans c2
  have H := Lib.hid (is_lit W b n (Nat.lt_of_lt_of_le h1 hb.size) ((hb.cell (p := ⟨b, 0, none⟩) h1).trans c1) W x (Below.refl _ _))
  clear c1 c2 hb h1 h2
  show Calls Try.prog 73 #[.int .i64 x, .pointer (some ⟨b2, 0, none⟩)] W _
  go_enter Try.func73, Try.ntmps73
  go_wp2_with (go_at_call 72; refine (H.out).mono ?_; rintro e w1 ⟨rfl, hb1⟩)
  go_ret
  exact ⟨rfl, hb1⟩

/-- the error of open -/
def openE (n : Int) (l : List S58) (sv st : Int) (vs : List Int) : Int :=
  if checkYard n l ≠ 0 then checkYard n l else if isV n sv = false ∨ withinB 0 100000 [st] = false then 2 else if vs.any (fun v => !isV n v) then 3 else 0

/-- the cells of a search as open makes it -/
def zero20 : List Value := [.int .i64 0, .int .i64 0, .int .i64 0, .int .i64 0, .int .i64 0, .int .i64 0, .int .i64 0, .int .i64 0, .int .i64 0, .int .i64 0, .int .i64 0, .int .i64 0, .int .i64 0, .int .i64 0, .int .i64 0, .int .i64 0, .int .i64 0, .int .i64 0, .int .i64 0, .int .i64 0]

theorem boxes2 (w : World) (o1 o2 : Obj) : Below w.heap.size w ((w.alloc o1).alloc o2) := ((Below.refl _ _).alloc (Nat.le_refl _) _).alloc (by simp) _
theorem box1 (w : World) (o1 : Obj) : Below w.heap.size w (w.alloc o1) := (Below.refl _ _).alloc (Nat.le_refl _) _
/-- a cell in a later world -/
theorem cell_in {w w1 : World} {a : Addr} {v : Value} (hb : Below w.heap.size w w1) (h : w.cell? a = some v) : w1.cell? a = some v :=
  (hb.cell (World.block_lt_of_cell? w a h)).trans h
theorem cell_in1 {w w1 : World} {o : Obj} {a : Addr} {v : Value} (hb : Below (w.alloc o).heap.size (w.alloc o) w1) (h : w.cell? a = some v) : w1.cell? a = some v :=
  cell_in hb (cell_in (box1 w o) h)
theorem cell_in2 {w w1 : World} {o o2 : Obj} {a : Addr} {v : Value} (hb : Below ((w.alloc o).alloc o2).heap.size ((w.alloc o).alloc o2) w1) (h : w.cell? a = some v) : w1.cell? a = some v :=
  cell_in hb (cell_in (boxes2 w o o2) h)
theorem size1 {w w1 : World} {o : Obj} (hb : Below (w.alloc o).heap.size (w.alloc o) w1) : w.heap.size < w1.heap.size := by
  have := hb.size; simp only [World.size_alloc] at this; omega
theorem size2 {w w1 : World} {o o2 : Obj} (hb : Below ((w.alloc o).alloc o2).heap.size ((w.alloc o).alloc o2) w1) : w.heap.size + 1 < w1.heap.size := by
  have := hb.size; simp only [World.size_alloc] at this; omega
theorem later1 {w w1 : World} {o : Obj} (hb : Below (w.alloc o).heap.size (w.alloc o) w1) : Below w.heap.size w w1 := (box1 w o).trans (hb.mono (by simp))
theorem later2 {w w1 : World} {o o2 : Obj} (hb : Below ((w.alloc o).alloc o2).heap.size ((w.alloc o).alloc o2) w1) : Below w.heap.size w w1 := (boxes2 w o o2).trans (hb.mono (by simp; omega))
/-- one step after another -/
theorem after {w w1 w2 : World} (h : Below w.heap.size w w1) (h2 : Below w1.heap.size w1 w2) : Below w.heap.size w w2 := h.trans (h2.mono h.size)
theorem boxes_after {w w1 : World} {n sv st : Int} {s : Value} (hb : Below ((w.alloc (.cells #[.int .i64 n, s] 24)).alloc (.cells #[.int .i64 sv, .int .i64 st] 26)).heap.size ((w.alloc (.cells #[.int .i64 n, s] 24)).alloc (.cells #[.int .i64 sv, .int .i64 st] 26)) w1) :
    w1.cell? ⟨w.heap.size, 0, none⟩ = some (.int .i64 n) ∧ w1.cell? ⟨w.heap.size, 1, none⟩ = some s ∧ w1.cell? ⟨w.heap.size + 1, 0, none⟩ = some (.int .i64 sv) ∧ w1.cell? ⟨w.heap.size + 1, 1, none⟩ = some (.int .i64 st) := by
  refine ⟨(hb.cell (p := ⟨w.heap.size, 0, none⟩) (by simp; omega)).trans (by simp), (hb.cell (p := ⟨w.heap.size, 1, none⟩) (by simp; omega)).trans (by simp), (hb.cell (p := ⟨w.heap.size + 1, 0, none⟩) (by simp)).trans (by simp), (hb.cell (p := ⟨w.heap.size + 1, 1, none⟩) (by simp)).trans (by simp)⟩

set_option maxHeartbeats 2000000 in
set_option maxRecDepth 100000 in
theorem open_bad (n : Int) (A : Option Addr) (c : Nat) (l : List S58) (sv st : Int) (Av : Option Addr) (cv : Nat) (vs : List Int) (w : World)
    (hr : Kd.C k58 w A l.length l) (hv : Kd.C (Kd.int .i64) w Av vs.length vs) (hE : openE n l sv st vs ≠ 0) :
    Calls Try.prog 52 #[.agg #[.int .i64 n, .slice A l.length c], .agg #[.int .i64 sv, .int .i64 st], .slice Av vs.length cv] w
      fun e w' => e = .returned (.tuple #[.pointer none, .int .i64 (openE n l sv st vs)]) ∧ Below w.heap.size w w' := by
  have hr' := Lib.hid hr
  have hv' := Lib.hid hv
  clear hr hv
  have HY := Lib.hid (checkYard_calls n A c l _ (Kd.C_below hr'.out (boxes2 w (.cells #[.int .i64 n, .slice A l.length c] 24) (.cells #[.int .i64 sv, .int .i64 st] 26))))
  by_cases hc : checkYard n l = 0
  · have HC := Lib.hid hc
    by_cases h2 : isV n sv = true
    · cases h3 : withinB 0 100000 [st]
      · have F := Lib.hid (show openE n l sv st vs = 2 by simp [openE, hc, h2, h3])
        clear hE hc
        go_enter Try.func52, Try.ntmps52
        go_wp2_with (go_at_call 16; refine (HY.out).mono ?_; rintro e w1 ⟨rfl, hb1⟩; rw [HC.out]; obtain ⟨q1, q2, q3, q4⟩ := boxes_after hb1; have hz2 := size2 hb1; have hz1 : w.heap.size < w1.heap.size := by omega)
        refine (is_call _ _ n sv ?_).mono ?_
        focus (go_simp; done)
        rintro e w2 ⟨rfl, hb2⟩
        rw [h2]
        have q4' := cell_in1 hb2 q4
        go_wp2_with fail
        refine (within_one _ _ st _ _ _ ?_).mono ?_
        focus (go_simp; done)
        rintro e w3 ⟨rfl, hb3⟩
        rw [h3]
        go_wp2
        go_ret2
        exact ⟨by rw [F.out]; rfl, after (after (later2 hb1) (later1 hb2)) (later1 hb3)⟩
      · have h4 : vs.any (fun v => !isV n v) = true := by
          cases h : vs.any (fun v => !isV n v)
          · exact absurd (show openE n l sv st vs = 0 by simp only [openE, hc, h2, h3, h]; simp) hE
          · rfl
        have H4 := Lib.hid h4
        have F := Lib.hid (show openE n l sv st vs = 3 by simp only [openE, hc, h2, h3, h4]; simp)
        clear hE hc h4
        go_enter Try.func52, Try.ntmps52
        go_wp2_with (go_at_call 16; refine (HY.out).mono ?_; rintro e w1 ⟨rfl, hb1⟩; rw [HC.out]; obtain ⟨q1, q2, q3, q4⟩ := boxes_after hb1; have hz2 := size2 hb1; have hz1 : w.heap.size < w1.heap.size := by omega)
        refine (is_call _ _ n sv ?_).mono ?_
        focus (go_simp; done)
        rintro e w2 ⟨rfl, hb2⟩
        rw [h2]
        have q4' := cell_in1 hb2 q4
        have q1' := cell_in1 hb2 q1
        have q5' : w2.cell? ⟨w1.heap.size, 0, none⟩ = some (.func (.func 72) #[] #[.pointer (some ⟨w.heap.size, 0, none⟩)]) := cell_in hb2 (by go_simp)
        have hz3 := size1 hb2
        go_wp2_with fail
        refine (within_one _ _ st _ _ _ ?_).mono ?_
        focus (go_simp; done)
        rintro e w3 ⟨rfl, hb3⟩
        rw [h3]
        have q5 := cell_in1 hb3 q5'
        have q1'' := cell_in1 hb3 q1'
        have H3 := Lib.hid (isnt_lit w3 w.heap.size w1.heap.size n (World.block_lt_of_cell? w3 _ q1'') (World.block_lt_of_cell? w3 _ q5) q1'' q5)
        go_wp2_with fail
        refine (ContainsFunc53 73 _ _ Av cv vs _ (enters_of Try.func73 (by kernel_rfl) rfl) (Kd.C_below hv'.out (after (after (later2 hb1) (later1 hb2)) (later1 hb3))) H3.out).mono ?_
        rintro e w4 ⟨rfl, hb4⟩
        rw [H4.out]
        go_wp2
        go_ret2
        exact ⟨by rw [F.out]; rfl, after (after (after (later2 hb1) (later1 hb2)) (later1 hb3)) hb4⟩
    · have h2' : isV n sv = false := by simpa using h2
      have F := Lib.hid (show openE n l sv st vs = 2 by simp [openE, hc, h2'])
      clear hE hc h2
      go_enter Try.func52, Try.ntmps52
      go_wp2_with (go_at_call 16; refine (HY.out).mono ?_; rintro e w1 ⟨rfl, hb1⟩; rw [HC.out]; obtain ⟨q1, q2, q3, q4⟩ := boxes_after hb1; have hz2 := size2 hb1; have hz1 : w.heap.size < w1.heap.size := by omega)
      refine (is_call _ _ n sv ?_).mono ?_
      focus (go_simp; done)
      rintro e w2 ⟨rfl, hb2⟩
      rw [h2']
      go_wp2
      go_ret2
      exact ⟨by rw [F.out]; rfl, after (later2 hb1) (later1 hb2)⟩
  · have F := Lib.hid (show openE n l sv st vs = checkYard n l by simp [openE, hc])
    have hc2 : (checkYard n l != 0) = true := by simp [hc]
    clear hE hc
    go_enter Try.func52, Try.ntmps52
    go_wp2_with (go_at_call 16; refine (HY.out).mono ?_; rintro e w1 ⟨rfl, hb1⟩)
    go_ret2
    exact ⟨by rw [F.out]; rfl, after (later2 hb1) (box1 _ _)⟩

/-- A search as open makes it: its block. -/
def searchCells (n : Int) (s : Value) (sv st : Int) : Array Value := #[.int .i64 n, s, .int .i64 sv, .int .i64 st, .int .i64 0, .int .i64 0, .int .i64 0, .int .i64 0, .int .i64 0, .int .i64 0, .int .i64 0, .int .i64 0, .int .i64 0, .int .i64 0, .int .i64 0, .int .i64 0, .int .i64 0, .int .i64 0, .int .i64 0, .int .i64 0, .int .i64 0, .int .i64 0, .int .i64 0, .int .i64 0, .map none]

set_option maxHeartbeats 2000000 in
set_option maxRecDepth 100000 in
theorem open_ok (n : Int) (A : Option Addr) (c : Nat) (l : List S58) (sv st : Int) (Av : Option Addr) (cv : Nat) (vs : List Int) (w : World)
    (hr : Kd.C k58 w A l.length l) (hv : Kd.C (Kd.int .i64) w Av vs.length vs) (hE : openE n l sv st vs = 0) :
    Calls Try.prog 52 #[.agg #[.int .i64 n, .slice A l.length c], .agg #[.int .i64 sv, .int .i64 st], .slice Av vs.length cv] w
      fun e w' => ∃ w1, Below w.heap.size w w1 ∧ e = .returned (.tuple #[.pointer (some ⟨w1.heap.size, 0, none⟩), .int .i64 0]) ∧ w' = w1.alloc (.cells (searchCells n (.slice A l.length c) sv st) 96) := by
  have hr' := Lib.hid hr
  have hv' := Lib.hid hv
  clear hr hv
  have HY := Lib.hid (checkYard_calls n A c l _ (Kd.C_below hr'.out (boxes2 w (.cells #[.int .i64 n, .slice A l.length c] 24) (.cells #[.int .i64 sv, .int .i64 st] 26))))
  have hc : checkYard n l = 0 := by
    by_cases h : checkYard n l = 0
    · exact h
    · rw [openE, if_pos h] at hE; exact hE
  have h2 : isV n sv = true := by
    cases h : isV n sv
    · simp [openE, hc, h] at hE
    · rfl
  have h3 : withinB 0 100000 [st] = true := by
    cases h : withinB 0 100000 [st]
    · simp [openE, hc, h2, h] at hE
    · rfl
  have H4 : Hid (vs.any (fun v => !isV n v) = false) := by
    refine Lib.hid ?_
    cases h : vs.any (fun v => !isV n v)
    · rfl
    · simp only [openE, hc, h2, h3, h] at hE; simp at hE
  have HC := Lib.hid hc
  clear hE hc
  go_enter Try.func52, Try.ntmps52
  go_wp2_with (go_at_call 16; refine (HY.out).mono ?_; rintro e w1 ⟨rfl, hb1⟩; rw [HC.out]; obtain ⟨q1, q2, q3, q4⟩ := boxes_after hb1; have hz2 := size2 hb1; have hz1 : w.heap.size < w1.heap.size := by omega)
  refine (is_call _ _ n sv ?_).mono ?_
  focus (go_simp; done)
  rintro e w2 ⟨rfl, hb2⟩
  rw [h2]
  have q4' := cell_in1 hb2 q4
  have q1' := cell_in1 hb2 q1
  have q5' : w2.cell? ⟨w1.heap.size, 0, none⟩ = some (.func (.func 72) #[] #[.pointer (some ⟨w.heap.size, 0, none⟩)]) := cell_in hb2 (by go_simp)
  have hz3 := size1 hb2
  go_wp2_with fail
  refine (within_one _ _ st _ _ _ ?_).mono ?_
  focus (go_simp; done)
  rintro e w3 ⟨rfl, hb3⟩
  rw [h3]
  have q5 := cell_in1 hb3 q5'
  have q1'' := cell_in1 hb3 q1'
  have H3 := Lib.hid (isnt_lit w3 w.heap.size w1.heap.size n (World.block_lt_of_cell? w3 _ q1'') (World.block_lt_of_cell? w3 _ q5) q1'' q5)
  go_wp2_with fail
  refine (ContainsFunc53 73 _ _ Av cv vs _ (enters_of Try.func73 (by kernel_rfl) rfl) (Kd.C_below hv'.out (after (after (later2 hb1) (later1 hb2)) (later1 hb3))) H3.out).mono ?_
  rintro e w4 ⟨rfl, hb4⟩
  rw [H4.out]
  have p1 := cell_in hb4 q1''
  have p2 := cell_in hb4 (cell_in1 hb3 (cell_in1 hb2 q2))
  have p3 := cell_in hb4 (cell_in1 hb3 (cell_in1 hb2 q3))
  have p4 := cell_in hb4 (cell_in1 hb3 q4')
  clear q1 q2 q3 q4 q4' q1' q1'' q5 q5'
  go_wp2
  go_ret2
  refine ⟨w4, after (after (after (later2 hb1) (later1 hb2)) (later1 hb3)) hb4, rfl, rfl⟩
end Go.Proofs.Ytfhmepdbbhcncaa.P
