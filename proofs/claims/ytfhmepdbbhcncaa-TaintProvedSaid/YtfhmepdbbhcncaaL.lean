import Derived.Test.YtfhmepdbbhcncaaK
namespace Go.Proofs.Ytfhmepdbbhcncaa.P
open Go.RowKit Go.ChangeShapes Go.WideShapes Go.Deep Go.Joins Go.Proofs.YtfhmepdbbhcncaaW.PrintWords Go.Proofs.YtfhmepdbbhcncaaW.PrintLast Go.Proofs.YtfhmepdbbhcncaaW.PrintMore Go.Proofs.YtfhmepdbbhcncaaK
set_option maxRecDepth 100000

/-- A whole number that Go's int64 holds. -/
def I64 (n : Int) : Prop := (Lit.int .i64 n).wf = true
/-- All numbers of a move are of that kind. -/
structure MovW (m : S58) : Prop where
  f0 : I64 m.f0
  f1 : I64 m.f1
  lo : I64 m.f2.f0
  hi : I64 m.f2.f1
theorem opens2 : Opens Try.prog 2 (Kd.int .i64) I64 := Opens.int Try.underlying2
theorem opens3 : Opens Try.prog 3 (Kd.int .i64) I64 := Opens.int Try.underlying3
theorem opens56 : Opens Try.prog 56 k56 (fun x => I64 x.f0 ∧ I64 x.f1) :=
  opens_two (s0 := 1) (s1 := 1) Try.underlying56 rfl rfl (by kernel_rfl) (by kernel_rfl) (by kernel_rfl) opens2 opens2 _ _ (fun w a b x y ha hb oa ob => ⟨⟨a, b⟩, ⟨x, y, rfl, ha, hb⟩, oa, ob⟩)
theorem opens58 : Opens Try.prog 58 k58 MovW :=
  opens_three (s0 := 1) (s1 := 1) (s2 := 2) Try.underlying58 rfl rfl rfl (by kernel_rfl) (by kernel_rfl) (by kernel_rfl) (by kernel_rfl) opens3 opens3 opens56 _ _ (fun w a b c x y z ha hb hc oa ob oc => ⟨⟨a, b, c⟩, ⟨x, y ++ z, rfl, ha, ⟨y, z, rfl, hb, hc⟩⟩, oa, ob, oc.1, oc.2⟩)
/-- A yard that was passed. -/
theorem arg_yard {H : Type} {enc : TypeId × Value → H} {w : World} {r : Reach} {b0 : Nat} {spare : Nat → Bool} {v : Value} {dd : DataW H} {p : List MemPlace} (hv : Value.okWide Try.prog w r b0 24 v) (h : DataW.Trod enc Try.prog w 0 spare true 24 v dd p) :
    ∃ (a : Int) (A : Option Addr) (c : Nat) (l : List S58), v = .agg #[.int .i64 a, .slice A l.length c] ∧ I64 a ∧ l.length ≤ c ∧ Kd.C k58 w A l.length l ∧ ∀ m ∈ l, MovW m := by
  obtain ⟨v0, v1, y0, y1, n, rfl, rfl, rfl, h0, h1⟩ := open_agg2 Try.underlying24 (by kernel_rfl) (by kernel_rfl) hv h
  obtain ⟨a, e0, _, wa⟩ := DataW.trod_int Try.underlying3 h0
  obtain ⟨A, c, l, e1, hl, hC, hok⟩ := opens_slice (d := k58) Try.underlying22 (by kernel_rfl) opens58 h1
  simp only [List.cons.injEq, and_true] at e0 e1
  subst e0 e1
  exact ⟨a, A, c, l, rfl, wa, hl, hC, hok⟩
/-- A start that was passed. -/
theorem arg_start {H : Type} {enc : TypeId × Value → H} {w : World} {r : Reach} {b0 : Nat} {spare : Nat → Bool} {v : Value} {dd : DataW H} {p : List MemPlace} (hv : Value.okWide Try.prog w r b0 26 v) (h : DataW.Trod enc Try.prog w 0 spare true 26 v dd p) :
    ∃ (a b : Int), v = .agg #[.int .i64 a, .int .i64 b] ∧ I64 a ∧ I64 b := by
  obtain ⟨v0, v1, y0, y1, n, rfl, rfl, rfl, h0, h1⟩ := open_agg2 Try.underlying26 (by kernel_rfl) (by kernel_rfl) hv h
  obtain ⟨a, e0, _, wa⟩ := DataW.trod_int Try.underlying3 h0
  obtain ⟨b, e1, _, wb⟩ := DataW.trod_int Try.underlying2 h1
  simp only [List.cons.injEq, and_true] at e0 e1
  subst e0 e1
  exact ⟨a, b, rfl, wa, wb⟩
theorem arg_ints {H : Type} {enc : TypeId × Value → H} {w : World} {r : Reach} {b0 : Nat} {spare : Nat → Bool} {v : Value} {dd : DataW H} {p : List MemPlace} (hv : Value.okWide Try.prog w r b0 27 v) (h : DataW.Trod enc Try.prog w 0 spare true 27 v dd p) :
    ∃ (A : Option Addr) (c : Nat) (l : List Int), v = .slice A l.length c ∧ l.length ≤ c ∧ Kd.C (Kd.int .i64) w A l.length l ∧ ∀ x ∈ l, I64 x := arg_slice (d := Kd.int .i64) Try.underlying27 (by kernel_rfl) opens3 hv h
theorem arg_longs {H : Type} {enc : TypeId × Value → H} {w : World} {r : Reach} {b0 : Nat} {spare : Nat → Bool} {v : Value} {dd : DataW H} {p : List MemPlace} (hv : Value.okWide Try.prog w r b0 28 v) (h : DataW.Trod enc Try.prog w 0 spare true 28 v dd p) :
    ∃ (A : Option Addr) (c : Nat) (l : List Int), v = .slice A l.length c ∧ l.length ≤ c ∧ Kd.C (Kd.int .i64) w A l.length l ∧ ∀ x ∈ l, I64 x := arg_slice (d := Kd.int .i64) Try.underlying28 (by kernel_rfl) opens2 hv h
end Go.Proofs.Ytfhmepdbbhcncaa.P
