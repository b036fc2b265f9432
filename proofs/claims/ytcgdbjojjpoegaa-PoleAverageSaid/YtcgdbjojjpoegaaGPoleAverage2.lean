/- Texts of this claim, joined: LT. -/
import Derived.Test.YtcgdbjojjpoegaaGPoleAverage1
namespace Go.Proofs.Ytcgdbjojjpoegaa.P
open Go.RowKit Go.ChangeShapes Go.WideShapes Go.Deep Go.Joins Go.Proofs.YtcgdbjojjpoegaaW.PrintWords Go.Proofs.YtcgdbjojjpoegaaW.PrintLast Go.Proofs.YtcgdbjojjpoegaaW.PrintMore Go.Proofs.YtcgdbjojjpoegaaK
set_option maxRecDepth 100000
theorem opens48 : Opens Try.prog 48 (Kd.slice 2 (Kd.int .i64)) (fun x => ∀ y ∈ x, I64 y) := by
  intro H enc w base spare held fuel cs x h
  obtain ⟨A, c, l, rfl, hl, hC, hok⟩ := opens_slice (d := Kd.int .i64) Try.underlying48 (by kernel_rfl) opens2 h
  exact ⟨l, ⟨A, c, rfl, hl, hC⟩, hok⟩
/-- Lines of numbers that were passed. -/
theorem arg_grid {H : Type} {enc : TypeId × Value → H} {w : World} {r : Reach} {b0 : Nat} {spare : Nat → Bool} {v : Value} {dd : DataW H} {p : List MemPlace} (hv : Value.okWide Try.prog w r b0 37 v) (h : DataW.Trod enc Try.prog w 0 spare true 37 v dd p) :
    ∃ (A : Option Addr) (c : Nat) (l : List (List Int)), v = .slice A l.length c ∧ l.length ≤ c ∧ Kd.C (Kd.slice 2 (Kd.int .i64)) w A l.length l ∧ ∀ x ∈ l, ∀ y ∈ x, I64 y := arg_slice (d := Kd.slice 2 (Kd.int .i64)) Try.underlying37 (by kernel_rfl) opens48 hv h
/-- A table that was passed. -/
theorem arg_table {H : Type} {enc : TypeId × Value → H} {w : World} {r : Reach} {b0 : Nat} {spare : Nat → Bool} {v : Value} {dd : DataW H} {p : List MemPlace} (hv : Value.okWide Try.prog w r b0 39 v) (h : DataW.Trod enc Try.prog w 0 spare true 39 v dd p) :
    ∃ (a : Int) (A : Option Addr) (c : Nat) (l : List (List Int)), v = .agg #[.int .i64 a, .slice A l.length c] ∧ I64 a ∧ l.length ≤ c ∧ Kd.C (Kd.slice 2 (Kd.int .i64)) w A l.length l ∧ ∀ x ∈ l, ∀ y ∈ x, I64 y := by
  obtain ⟨v0, v1, y0, y1, n, rfl, rfl, rfl, h0, h1⟩ := open_agg2 Try.underlying39 (by kernel_rfl) (by kernel_rfl) hv h
  obtain ⟨a, e0, _, wa⟩ := DataW.trod_int Try.underlying2 h0
  obtain ⟨A, c, l, e1, hl, hC, hok⟩ := opens_slice (d := Kd.slice 2 (Kd.int .i64)) Try.underlying37 (by kernel_rfl) opens48 h1
  simp only [List.cons.injEq, and_true] at e0 e1
  subst e0 e1
  exact ⟨a, A, c, l, rfl, wa, hl, hC, hok⟩
end Go.Proofs.Ytcgdbjojjpoegaa.P

