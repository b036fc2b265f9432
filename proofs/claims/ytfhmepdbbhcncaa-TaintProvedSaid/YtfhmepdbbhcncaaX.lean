import Derived.Test.YtfhmepdbbhcncaaE22
namespace Go.Proofs.Ytfhmepdbbhcncaa.P
open Go.RowKit Go.Shelf Go.Proofs.YtfhmepdbbhcncaaW.PrintWords Go.Proofs.YtfhmepdbbhcncaaW.PrintLast Go.Proofs.YtfhmepdbbhcncaaW.PrintMore Go.Proofs.YtfhmepdbbhcncaaM Go.Proofs.YtfhmepdbbhcncaaR
set_option linter.unusedVariables false
set_option linter.unusedSimpArgs false

/-! The program's functions in the form in which printed callers want them. -/
def taint_CheckYard.f (a0_0 : Int) (l0_1 : List S58) : Option Int := some (checkYard a0_0 l0_1)
theorem taint_CheckYard.calls (a0_0 : Int) (A0_1 : Option Addr) (c0_1 : Nat) (l0_1 : List S58) (r : Int) (w : World) (hr0_1 : Kd.C k58 w A0_1 l0_1.length l0_1) (hc0_1 : l0_1.length ≤ c0_1) (h : taint_CheckYard.f a0_0 l0_1 = some r) :
    Calls Try.prog 16 #[.agg #[.int .i64 a0_0, .slice A0_1 l0_1.length c0_1]] w fun e w' => e = .returned (.int .i64 r) ∧ Below w.heap.size w w' := by
  injection h with h; subst h
  exact checkYard_calls a0_0 A0_1 c0_1 l0_1 w hr0_1
def taint_CheckTrail.f (a0_0 : Int) (l0_1 : List S58) (a1_0 a1_1 a2 : Int) (l3 : List Int) (a4 : Bool) : Option Int := some (checkTrailF a0_0 l0_1 a1_0 a1_1 a2 l3 a4)
theorem taint_CheckTrail.calls (a0_0 : Int) (A0_1 : Option Addr) (c0_1 : Nat) (l0_1 : List S58) (a1_0 a1_1 a2 : Int) (A3 : Option Addr) (c3 : Nat) (l3 : List Int) (a4 : Bool) (r : Int) (w : World) (hr0_1 : Kd.C k58 w A0_1 l0_1.length l0_1) (hc0_1 : l0_1.length ≤ c0_1)
    (hr3 : Kd.C (Kd.int .i64) w A3 l3.length l3) (hc3 : l3.length ≤ c3) (h : taint_CheckTrail.f a0_0 l0_1 a1_0 a1_1 a2 l3 a4 = some r) :
    Calls Try.prog 18 #[.agg #[.int .i64 a0_0, .slice A0_1 l0_1.length c0_1], .agg #[.int .i64 a1_0, .int .i64 a1_1], .int .i64 a2, .slice A3 l3.length c3, .bool a4] w fun e w' => e = .returned (.int .i64 r) ∧ Below w.heap.size w w' := by
  injection h with h; subst h
  exact checkTrail_calls a0_0 A0_1 c0_1 l0_1 a1_0 a1_1 a2 A3 c3 l3 a4 w hr0_1 hr3
def taint_CheckArrivals.f (a0_0 : Int) (l0_1 : List S58) (a1_0 a1_1 : Int) (l2 : List Int) : Option Int := some (checkArrF a0_0 l0_1 a1_0 a1_1 l2)
theorem taint_CheckArrivals.calls (a0_0 : Int) (A0_1 : Option Addr) (c0_1 : Nat) (l0_1 : List S58) (a1_0 a1_1 : Int) (A2 : Option Addr) (c2 : Nat) (l2 : List Int) (r : Int) (w : World) (hr0_1 : Kd.C k58 w A0_1 l0_1.length l0_1) (hc0_1 : l0_1.length ≤ c0_1)
    (hr2 : Kd.C (Kd.int .i64) w A2 l2.length l2) (hc2 : l2.length ≤ c2) (h : taint_CheckArrivals.f a0_0 l0_1 a1_0 a1_1 l2 = some r) :
    Calls Try.prog 20 #[.agg #[.int .i64 a0_0, .slice A0_1 l0_1.length c0_1], .agg #[.int .i64 a1_0, .int .i64 a1_1], .slice A2 l2.length c2] w fun e w' => e = .returned (.int .i64 r) ∧ Below w.heap.size w w' := by
  injection h with h; subst h
  exact checkArrivals_calls a0_0 A0_1 c0_1 l0_1 a1_0 a1_1 A2 c2 l2 w hr0_1 hr2
def taint_Arrivals.f (a0_0 : Int) (l0_1 : List S58) (a1_0 a1_1 : Int) : Option (List Int × Int) := some (arrL a0_0 l0_1 a1_0 a1_1, openE a0_0 l0_1 a1_0 a1_1 [])
theorem taint_Arrivals.calls (a0_0 : Int) (A0_1 : Option Addr) (c0_1 : Nat) (l0_1 : List S58) (a1_0 a1_1 : Int) (r1 : List Int) (r2 : Int) (w : World) (hr0_1 : Kd.C k58 w A0_1 l0_1.length l0_1) (hc0_1 : l0_1.length ≤ c0_1) (h : taint_Arrivals.f a0_0 l0_1 a1_0 a1_1 = some (r1, r2)) :
    Calls Try.prog 22 #[.agg #[.int .i64 a0_0, .slice A0_1 l0_1.length c0_1], .agg #[.int .i64 a1_0, .int .i64 a1_1]] w fun e w' => ∃ v0_ : Value, e = .returned (.tuple #[v0_, .int .i64 r2]) ∧ Kd.R (Kd.int .i64) 2 w' w.heap.size (fun _ => True) v0_ r1 ∧ Below w.heap.size w w' := by
  unfold taint_Arrivals.f at h
  simp only [Option.some.injEq, Prod.mk.injEq] at h
  obtain ⟨rfl, rfl⟩ := h
  exact arrivals_calls a0_0 A0_1 c0_1 l0_1 a1_0 a1_1 w hr0_1
def taint_Carried.f (a0_0 : Int) (l0_1 : List S58) (a1_0 a1_1 : Int) : Option (List Int × Int) := some (carL a0_0 l0_1 a1_0 a1_1, openE a0_0 l0_1 a1_0 a1_1 [])
theorem taint_Carried.calls (a0_0 : Int) (A0_1 : Option Addr) (c0_1 : Nat) (l0_1 : List S58) (a1_0 a1_1 : Int) (r1 : List Int) (r2 : Int) (w : World) (hr0_1 : Kd.C k58 w A0_1 l0_1.length l0_1) (hc0_1 : l0_1.length ≤ c0_1) (h : taint_Carried.f a0_0 l0_1 a1_0 a1_1 = some (r1, r2)) :
    Calls Try.prog 24 #[.agg #[.int .i64 a0_0, .slice A0_1 l0_1.length c0_1], .agg #[.int .i64 a1_0, .int .i64 a1_1]] w fun e w' => ∃ v0_ : Value, e = .returned (.tuple #[v0_, .int .i64 r2]) ∧ Kd.R (Kd.int .i64) 3 w' w.heap.size (fun _ => True) v0_ r1 ∧ Below w.heap.size w w' := by
  unfold taint_Carried.f at h
  simp only [Option.some.injEq, Prod.mk.injEq] at h
  obtain ⟨rfl, rfl⟩ := h
  exact carried_calls a0_0 A0_1 c0_1 l0_1 a1_0 a1_1 w hr0_1
def taint_Sure.f (a0_0 : Int) (l0_1 : List S58) (a1_0 a1_1 : Int) : Option (List Int × Int) := some (sureL a0_0 l0_1 a1_0 a1_1, openE a0_0 l0_1 a1_0 a1_1 [])
theorem taint_Sure.calls (a0_0 : Int) (A0_1 : Option Addr) (c0_1 : Nat) (l0_1 : List S58) (a1_0 a1_1 : Int) (r1 : List Int) (r2 : Int) (w : World) (hr0_1 : Kd.C k58 w A0_1 l0_1.length l0_1) (hc0_1 : l0_1.length ≤ c0_1) (h : taint_Sure.f a0_0 l0_1 a1_0 a1_1 = some (r1, r2)) :
    Calls Try.prog 26 #[.agg #[.int .i64 a0_0, .slice A0_1 l0_1.length c0_1], .agg #[.int .i64 a1_0, .int .i64 a1_1]] w fun e w' => ∃ v0_ : Value, e = .returned (.tuple #[v0_, .int .i64 r2]) ∧ Kd.R (Kd.int .i64) 3 w' w.heap.size (fun _ => True) v0_ r1 ∧ Below w.heap.size w w' := by
  unfold taint_Sure.f at h
  simp only [Option.some.injEq, Prod.mk.injEq] at h
  obtain ⟨rfl, rfl⟩ := h
  exact sure_calls a0_0 A0_1 c0_1 l0_1 a1_0 a1_1 w hr0_1
def taint_Passed.f (a0_0 : Int) (l0_1 : List S58) (a1_0 a1_1 a2 : Int) : Option (List Int × Int) := passedF a0_0 l0_1 a1_0 a1_1 a2
theorem taint_Passed.calls (a0_0 : Int) (A0_1 : Option Addr) (c0_1 : Nat) (l0_1 : List S58) (a1_0 a1_1 a2 : Int) (r1 : List Int) (r2 : Int) (w : World) (hr0_1 : Kd.C k58 w A0_1 l0_1.length l0_1) (hc0_1 : l0_1.length ≤ c0_1) (h : taint_Passed.f a0_0 l0_1 a1_0 a1_1 a2 = some (r1, r2)) :
    Calls Try.prog 30 #[.agg #[.int .i64 a0_0, .slice A0_1 l0_1.length c0_1], .agg #[.int .i64 a1_0, .int .i64 a1_1], .int .i64 a2] w fun e w' => ∃ v0_ : Value, e = .returned (.tuple #[v0_, .int .i64 r2]) ∧ Kd.R (Kd.int .i64) 3 w' w.heap.size (fun _ => True) v0_ r1 ∧ Below w.heap.size w w' :=
  passed_calls a0_0 A0_1 c0_1 l0_1 a1_0 a1_1 a2 r1 r2 w hr0_1 h
def taint_Trail.f (a0_0 : Int) (l0_1 : List S58) (a1_0 a1_1 a2 : Int) : Option (List Int × Int) := trailF a0_0 l0_1 a1_0 a1_1 a2
theorem taint_Trail.calls (a0_0 : Int) (A0_1 : Option Addr) (c0_1 : Nat) (l0_1 : List S58) (a1_0 a1_1 a2 : Int) (r1 : List Int) (r2 : Int) (w : World) (hr0_1 : Kd.C k58 w A0_1 l0_1.length l0_1) (hc0_1 : l0_1.length ≤ c0_1) (h : taint_Trail.f a0_0 l0_1 a1_0 a1_1 a2 = some (r1, r2)) :
    Calls Try.prog 32 #[.agg #[.int .i64 a0_0, .slice A0_1 l0_1.length c0_1], .agg #[.int .i64 a1_0, .int .i64 a1_1], .int .i64 a2] w fun e w' => ∃ v0_ : Value, e = .returned (.tuple #[v0_, .int .i64 r2]) ∧ Kd.R (Kd.int .i64) 3 w' w.heap.size (fun _ => True) v0_ r1 ∧ Below w.heap.size w w' :=
  trail_calls a0_0 A0_1 c0_1 l0_1 a1_0 a1_1 a2 r1 r2 w hr0_1 h
def taint_Causes.f (a0_0 : Int) (l0_1 : List S58) (l1 : List Int) : Option (List S26 × Int) := causesF a0_0 l0_1 l1
theorem taint_Causes.calls (a0_0 : Int) (A0_1 : Option Addr) (c0_1 : Nat) (l0_1 : List S58) (A1 : Option Addr) (c1 : Nat) (l1 : List Int) (r1 : List S26) (r2 : Int) (w : World) (hr0_1 : Kd.C k58 w A0_1 l0_1.length l0_1) (hc0_1 : l0_1.length ≤ c0_1)
    (hr1 : Kd.C (Kd.int .i64) w A1 l1.length l1) (hc1 : l1.length ≤ c1) (h : taint_Causes.f a0_0 l0_1 l1 = some (r1, r2)) :
    Calls Try.prog 34 #[.agg #[.int .i64 a0_0, .slice A0_1 l0_1.length c0_1], .slice A1 l1.length c1] w fun e w' => ∃ v0_ : Value, e = .returned (.tuple #[v0_, .int .i64 r2]) ∧ Kd.R k26 26 w' w.heap.size (fun _ => True) v0_ r1 ∧ Below w.heap.size w w' :=
  causes_calls a0_0 A0_1 c0_1 l0_1 A1 c1 l1 r1 r2 w hr0_1 hr1 h
end Go.Proofs.Ytfhmepdbbhcncaa.P
