/- Texts of this claim, joined: T13, Pf61, Pf23, Pf25, T14, T15, T16, Pf35, Pf7, PurePoleFair, T17, XQ, L8. -/
import Derived.Test.YtcgdbjojjpoegaaGc6
import Derived.OpenShut
namespace Go.Proofs.Ytcgdbjojjpoegaa.P
open Go.RowKit Go.Proofs.YtcgdbjojjpoegaaW.PrintWords Go.Proofs.YtcgdbjojjpoegaaW.PrintLast Go.Proofs.YtcgdbjojjpoegaaW.PrintMore
set_option linter.unusedVariables false
set_option linter.unusedSimpArgs false

theorem withinB_1 {lo hi x : Int} : withinB lo hi [x] = true ↔ lo ≤ x ∧ x ≤ hi := by
  rw [← withinB_eq]
  simp
/-- clocks that differ as they may -/
structure Clk (lo hi : Int) : Prop where
  a : -100 ≤ lo
  b : lo ≤ hi
  c : hi ≤ 100
theorem clockB_iff {lo hi : Int} : clockB lo hi = true ↔ Clk lo hi := by
  unfold clockB
  simp only [Bool.and_eq_true, decide_eq_true_eq]
  exact ⟨fun h => ⟨h.1.1, h.1.2, h.2⟩, fun h => ⟨⟨h.a, h.b⟩, h.c⟩⟩
theorem Sign.f0 {l : List S54} (hs : Sign l) {i : Nat} (hi : i < l.length) : 0 ≤ (rd_T54 l i).f0 ∧ (rd_T54 l i).f0 ≤ 2000 := by
  refine ⟨?_, hs.max i hi⟩
  have hz := hs.z
  cases i with
  | zero => exact Int.le_of_eq hz.symm
  | succ i =>
    have := hs.lt (Nat.zero_lt_succ i) hi
    rw [show (rd_T54 l ((0 : Nat) : Int)) = rd_T54 l 0 from rfl, hz] at this
    exact Int.le_of_lt this
theorem AtI.step {l : List S54} {t : Int} {j : Nat} (h : AtI l (t - 1) j) (hn : ∀ i : Nat, 1 ≤ i → i < l.length → (rd_T54 l i).f0 ≠ t) : AtI l t j := by
  refine ⟨h.lt, ?_, fun i hi hi' => ?_⟩
  · rcases h.le with h1 | h1
    · exact .inl h1
    · exact .inr (by omega)
  · have h1 := h.gt i hi hi'
    have h2 := hn i (by omega) hi'
    omega
/-- the fair price of a minute -/
def fairV (l : List S54) (lo hi m : Int) : Int := (pole_fair.f l lo hi m).getD 0
theorem fairV_some {l : List S54} (hs : Sign l) {lo hi m : Int} (hc : Clk lo hi) (h1 : -10000 ≤ m) (h2 : m ≤ 10000) : pole_fair.f l lo hi m = some (fairV l lo hi m) ∧ FairV l lo hi m (fairV l lo hi m) := by
  obtain ⟨v, h3, h4⟩ := fair_eq hs hc.a hc.b hc.c h1 h2
  have : fairV l lo hi m = v := by unfold fairV; rw [h3]; rfl
  rw [this]
  exact ⟨h3, h4⟩
end Go.Proofs.Ytcgdbjojjpoegaa.P

namespace Go.Proofs.Ytcgdbjojjpoegaa.P
open Go.RowKit Go.Proofs.YtcgdbjojjpoegaaW.PrintWords Go.Proofs.YtcgdbjojjpoegaaW.PrintLast Go.Proofs.YtcgdbjojjpoegaaW.PrintMore
attribute [local go_sem] max2_int min2_int max_two min_two max_three min_three max_four min_four   -- for this text's walks alone
set_option linter.unusedVariables false
set_option linter.unusedSimpArgs false

/-! ### forecourtref09_fair: function 61 -/
mutual
def forecourtref09_fair.l0 : Nat → List (S54) → List Int → Int → Int → Int → Option (List Int)
  | 0, _, _, _, _, _ => none
  | k + 1, x0, x5, x6, x419000, x419001 => if x6 ≤ 2100 then ((forecourtref09_At.f k x0 x6).bind fun t419 => (if x5.length < 17592186044416 then (forecourtref09_fair.l0 k x0 (x5 ++ [t419]) (wrap64 (x6 + 1)) x419000 x419001) else (none))) else (forecourtref09_fair.l1 k x5 ([] : List Int) 0 x419000 x419001)
def forecourtref09_fair.l1 : Nat → List Int → List Int → Int → Int → Int → Option (List Int)
  | 0, _, _, _, _, _ => none
  | k + 1, x5, x7, x8, x419000, x419001 => if x8 ≤ 2000 then (if 0 ≤ (wrap64 ((wrap64 (x8 + x419000)) + 100)) then (if (wrap64 ((wrap64 (x8 + x419000)) + 100)) < (x5.length : Int) then (forecourtref09_fair.l2 k x5 x7 x8 (rd x5 (wrap64 ((wrap64 (x8 + x419000)) + 100))) (wrap64 (x8 + x419000)) x419000 x419001) else (none)) else (none)) else (some x7)
def forecourtref09_fair.l2 : Nat → List Int → List Int → Int → Int → Int → Int → Int → Option (List Int)
  | 0, _, _, _, _, _, _, _ => none
  | k + 1, x5, x7, x8, x9, x10, x419000, x419001 => if x10 ≤ (wrap64 (x8 + x419001)) then (if 0 ≤ (wrap64 (x10 + 100)) then (if (wrap64 (x10 + 100)) < (x5.length : Int) then (forecourtref09_fair.l2 k x5 x7 x8 (mn x9 (rd x5 (wrap64 (x10 + 100)))) (wrap64 (x10 + 1)) x419000 x419001) else (none)) else (none)) else (if x7.length < 17592186044416 then (forecourtref09_fair.l1 k x5 (x7 ++ [x9]) (wrap64 (x8 + 1)) x419000 x419001) else (none))
end
def forecourtref09_fair.f (k : Nat) (l0 : List (S54)) (a1_0 : Int) (a1_1 : Int) : Option (List Int) := forecourtref09_fair.l0 k l0 ([] : List Int) (-100) a1_0 a1_1
end Go.Proofs.Ytcgdbjojjpoegaa.P

namespace Go.Proofs.Ytcgdbjojjpoegaa.P
open Go.RowKit Go.Proofs.YtcgdbjojjpoegaaW.PrintWords Go.Proofs.YtcgdbjojjpoegaaW.PrintLast Go.Proofs.YtcgdbjojjpoegaaW.PrintMore
attribute [local go_sem] max2_int min2_int max_two min_two max_three min_three max_four min_four   -- for this text's walks alone
set_option linter.unusedVariables false
set_option linter.unusedSimpArgs false

/-! ### forecourtref09_Cheat: function 23 -/
def forecourtref09_Cheat.l0 : Nat → List (S54) → List Int → Int → Option (Int × Int)
  | 0, _, _, _ => none
  | k + 1, x1, x8, x9 => if x9 ≤ 2000 then ((forecourtref09_At.f k x1 x9).bind fun t437 => (if 0 ≤ x9 then (if x9 < (x8.length : Int) then (if t437 > (rd x8 x9) then (some (x9, 0)) else (forecourtref09_Cheat.l0 k x1 x8 (wrap64 (x9 + 1)))) else (none)) else (none))) else (some (0, 5))
def forecourtref09_Cheat.f (k : Nat) (l0 : List (S54)) (l1 : List (S54)) (a2_0 : Int) (a2_1 : Int) : Option (Int × Int) := (forecourtref09_CheckSign.f k l0).bind fun t429 => (if t429 = 0 then ((forecourtref09_CheckSign.f k l1).bind fun t431 => (if t431 = 0 then ((forecourtref09_IsClocks.f a2_0 a2_1).bind fun t433 => (if t433 = true then ((forecourtref09_fair.f k l0 a2_0 a2_1).bind fun t434 => (forecourtref09_Cheat.l0 k l1 t434 0)) else (some (0, 2)))) else ((forecourtref09_CheckSign.f k l1).bind fun t432 => (some (0, t432))))) else ((forecourtref09_CheckSign.f k l0).bind fun t430 => (some (0, t430))))
end Go.Proofs.Ytcgdbjojjpoegaa.P

namespace Go.Proofs.Ytcgdbjojjpoegaa.P
open Go.RowKit Go.Proofs.YtcgdbjojjpoegaaW.PrintWords Go.Proofs.YtcgdbjojjpoegaaW.PrintLast Go.Proofs.YtcgdbjojjpoegaaW.PrintMore
attribute [local go_sem] max2_int min2_int max_two min_two max_three min_three max_four min_four   -- for this text's walks alone
set_option linter.unusedVariables false
set_option linter.unusedSimpArgs false

/-! ### forecourtref09_Highest: function 25 -/
def forecourtref09_Highest.l0 : Nat → List Int → List (S54) → Int → Option ((List (S54)) × Int)
  | 0, _, _, _ => none
  | k + 1, x6, x7, x8 => if x8 ≤ 2000 then (if x8 = 0 then (if 0 ≤ x8 then (if x8 < (x6.length : Int) then (if x7.length < 8796093022208 then (forecourtref09_Highest.l0 k x6 (x7 ++ [(⟨x8, rd x6 x8⟩ : S54)]) (wrap64 (x8 + 1))) else (none)) else (none)) else (none)) else (if 0 ≤ x8 then (if x8 < (x6.length : Int) then (if 0 ≤ (wrap64 (x8 - 1)) then (if (wrap64 (x8 - 1)) < (x6.length : Int) then (if (rd x6 x8) = (rd x6 (wrap64 (x8 - 1))) then (forecourtref09_Highest.l0 k x6 x7 (wrap64 (x8 + 1))) else (if x7.length < 8796093022208 then (forecourtref09_Highest.l0 k x6 (x7 ++ [(⟨x8, rd x6 x8⟩ : S54)]) (wrap64 (x8 + 1))) else (none))) else (none)) else (none)) else (none)) else (none))) else (some (x7, 0))
def forecourtref09_Highest.f (k : Nat) (l0 : List (S54)) (a1_0 : Int) (a1_1 : Int) : Option ((List (S54)) × Int) := (forecourtref09_CheckSign.f k l0).bind fun t440 => (if t440 = 0 then ((forecourtref09_IsClocks.f a1_0 a1_1).bind fun t442 => (if t442 = true then ((forecourtref09_fair.f k l0 a1_0 a1_1).bind fun t443 => (forecourtref09_Highest.l0 k t443 ([] : List (S54)) 0)) else (some (([] : List (S54)), 2)))) else ((forecourtref09_CheckSign.f k l0).bind fun t441 => (some (([] : List (S54)), t441))))
end Go.Proofs.Ytcgdbjojjpoegaa.P

namespace Go.Proofs.Ytcgdbjojjpoegaa.P
open Go.RowKit Go.Proofs.YtcgdbjojjpoegaaW.PrintWords Go.Proofs.YtcgdbjojjpoegaaW.PrintLast Go.Proofs.YtcgdbjojjpoegaaW.PrintMore
set_option linter.unusedVariables false
set_option linter.unusedSimpArgs false

/-- a sign cheats at a minute -/
def Cheats (l pump : List S54) (lo hi m : Int) : Prop := fairV l lo hi m < atV pump m
instance (l pump : List S54) (lo hi m : Int) : Decidable (Cheats l pump lo hi m) := inferInstanceAs (Decidable (_ < _))
/-- what Cheat answers for valid signs and clocks -/
def CheatSpec (l pump : List S54) (lo hi : Int) (v : Int × Int) : Prop :=
  (v = (0, 5) ∧ ∀ m, 0 ≤ m → m ≤ 2000 → ¬ Cheats l pump lo hi m) ∨ (∃ m, v = (m, 0) ∧ 0 ≤ m ∧ m ≤ 2000 ∧ Cheats l pump lo hi m ∧ ∀ m', 0 ≤ m' → m' < m → ¬ Cheats l pump lo hi m')
theorem CheatSpec.uniq {l pump : List S54} {lo hi : Int} {u v : Int × Int} (h : CheatSpec l pump lo hi u) (h' : CheatSpec l pump lo hi v) : u = v := by
  rcases h with ⟨rfl, h1⟩ | ⟨m, rfl, h1, h2, h3, h4⟩ <;> rcases h' with ⟨rfl, g1⟩ | ⟨n, rfl, g1, g2, g3, g4⟩
  · rfl
  · exact absurd g3 (h1 n g1 g2)
  · exact absurd h3 (g1 m h1 h2)
  · rcases Int.lt_trichotomy m n with h5 | h5 | h5
    · exact absurd h3 (g4 m h1 h5)
    · rw [h5]
    · exact absurd g3 (h4 n g1 h5)
end Go.Proofs.Ytcgdbjojjpoegaa.P

namespace Go.Proofs.Ytcgdbjojjpoegaa.P
open Go.RowKit Go.Proofs.YtcgdbjojjpoegaaW.PrintWords Go.Proofs.YtcgdbjojjpoegaaW.PrintLast Go.Proofs.YtcgdbjojjpoegaaW.PrintMore
set_option linter.unusedVariables false
set_option linter.unusedSimpArgs false

end Go.Proofs.Ytcgdbjojjpoegaa.P

namespace Go.Proofs.Ytcgdbjojjpoegaa.P
open Go.RowKit Go.Proofs.YtcgdbjojjpoegaaW.PrintWords Go.Proofs.YtcgdbjojjpoegaaW.PrintLast Go.Proofs.YtcgdbjojjpoegaaW.PrintMore
set_option linter.unusedVariables false
set_option linter.unusedSimpArgs false
set_option maxRecDepth 20000

/-- The fair price is that of the least of the prices that stand in the window. -/
theorem fairI {l : List S54} (hs : Sign l) {lo hi m : Int} (hc : Clk lo hi) (h1 : -10000 ≤ m) (h2 : m ≤ 10000) : ∃ a b : Nat, AtI l (m + lo) a ∧ AtI l (m + hi) b ∧ (∃ i : Nat, a ≤ i ∧ i ≤ b ∧ fairV l lo hi m = (rd_T54 l i).f1) ∧ ∀ i : Nat, a ≤ i → i ≤ b → fairV l lo hi m ≤ (rd_T54 l i).f1 := by
  have ha := hc.a
  have hb := hc.b
  have hcc := hc.c
  obtain ⟨i, hi1, hi2⟩ := at_ex l (m + lo) hs.pos hs.le
  obtain ⟨j, hj1, hj2⟩ := at_ex l (m + hi) hs.pos hs.le
  have hij : i ≤ j := hi1.mon hj1 (by omega)
  have hjl := hj1.lt
  have hv : fairV l lo hi m = (leastP ((l.drop i).take (j + 1 - i))).f1 := by
    unfold fairV pole_fair.f
    rw [wrap_ok (m + lo) (by omega) (by omega), wrap_ok (m + hi) (by omega) (by omega), hi2 100 (by omega), hj2 100 (by omega)]
    simp only [Option.bind_some]
    rw [if_pos (by omega)]
    rfl
  have hne : (l.drop i).take (j + 1 - i) ≠ [] := by
    intro h
    have := congrArg List.length h
    simp only [List.length_take, List.length_drop, List.length_nil] at this
    omega
  obtain ⟨hmem, hle⟩ := leastP_spec _ hne
  refine ⟨i, j, hi1, hj1, ?_, fun n hn hn' => ?_⟩
  · obtain ⟨n, hn⟩ := List.mem_iff_getElem?.1 hmem
    rw [List.getElem?_take] at hn
    split at hn
    · rename_i hlt
      rw [List.getElem?_drop] at hn
      obtain ⟨hb, hn⟩ := List.getElem?_eq_some_iff.1 hn
      exact ⟨i + n, by omega, by omega, by rw [hv, ← hn, ← rdP l (i + n) hb]⟩
    · cases hn
  · rw [hv]
    refine hle _ ?_
    rw [rdP l n (by omega), List.mem_iff_getElem?]
    refine ⟨n - i, ?_⟩
    rw [List.getElem?_take, if_pos (by omega), List.getElem?_drop, show i + (n - i) = n by omega, List.getElem?_eq_getElem (by omega)]
theorem badFrom_no (l : List S54) : ∀ (f : Bool) (next : Int), (∀ i : Nat, (h : i < l.length) → (i = 0 → next ≤ l[i].f0 ∧ (f = true → l[i].f0 ≤ 0)) ∧ l[i].f0 ≤ 2000 ∧ ∀ hj : i + 1 < l.length, l[i].f0 < l[i + 1].f0) → badFrom f next l = false := by
  induction l with
  | nil => intro f next _; rfl
  | cons p l ih =>
    intro f next h
    unfold badFrom
    have h0 := h 0 (by simp)
    have h1 := h0.1 rfl
    have h2 := h0.2.1
    simp only [List.getElem_cons_zero] at h1 h2
    rw [ih false (p.f0 + 1) ?_]
    · rw [decide_eq_false (by omega), decide_eq_false (p := 2000 < p.f0) (by omega)]
      cases f with
      | false => rfl
      | true =>
        rw [decide_eq_false (by have := h1.2 rfl; omega)]
        rfl
    · intro i hi
      have h3 := h (i + 1) (by simpa using hi)
      simp only [List.getElem_cons_succ] at h3
      refine ⟨fun h4 => ⟨?_, fun h5 => by cases h5⟩, h3.2.1, fun hj => h3.2.2 (by simpa using hj)⟩
      subst h4
      have h5 := h0.2.2 (by simpa using hi)
      simp only [List.getElem_cons_zero, List.getElem_cons_succ] at h5
      omega
theorem fairV_rng {l : List S54} (hs : Sign l) {lo hi m : Int} (hc : Clk lo hi) (h1 : -10000 ≤ m) (h2 : m ≤ 10000) : 1 ≤ fairV l lo hi m ∧ fairV l lo hi m ≤ 100000 := by
  obtain ⟨a, b, ha, hb, ⟨i, h3, h4, h5⟩, _⟩ := fairI hs hc h1 h2
  rw [h5]
  exact hs.p1 i (by have := hb.lt; omega)
end Go.Proofs.Ytcgdbjojjpoegaa.P

namespace Go.Proofs.Ytcgdbjojjpoegaa.P
open Go.RowKit Go.Proofs.YtcgdbjojjpoegaaW.PrintWords Go.Proofs.YtcgdbjojjpoegaaW.PrintLast Go.Proofs.YtcgdbjojjpoegaaW.PrintMore
attribute [local go_sem] max2_int min2_int max_two min_two max_three min_three max_four min_four   -- for this text's walks alone
set_option linter.unusedVariables false
set_option linter.unusedSimpArgs false

/-! ### forecourtlaw09_fine: function 35 -/
def forecourtlaw09_fine.f (k : Nat) (l0 : List (S54)) (a1_0 : Int) (a1_1 : Int) : Option (Bool) := if (l0.length : Int) ≤ 40 then ((forecourtref09_CheckSign.f k l0).bind fun t515 => (if t515 = 0 then ((forecourtref09_IsClocks.f a1_0 a1_1).bind fun t516 => (some t516)) else (some false))) else (some false)
set_option maxHeartbeats 8000000 in
set_option maxRecDepth 100000 in
theorem forecourtlaw09_fine.calls (k : Nat) (A0 : Option Addr) (c0 : Nat) (l0 : List (S54)) (a1_0 : Int) (a1_1 : Int) (r : Bool) (w : World) (hr0 : Kd.C k54 w A0 l0.length l0) (hc0 : l0.length ≤ c0) (h : forecourtlaw09_fine.f k l0 a1_0 a1_1 = some r) :
    Calls Try.prog 35 #[.slice A0 l0.length c0, .agg #[.int .i64 a1_0, .int .i64 a1_1]] w fun e w' => e = .returned (.bool r) ∧ Below w.heap.size w w' := by
  have hu24 := Try.underlying24
  have HR0 := Aside0.mk hr0
  have HC0 := Aside0.mk hc0
  clear hr0 hc0
  have HB := Aside0.mk (Below.refl w.heap.size w)
  have H : (if (l0.length : Int) ≤ 40 then ((forecourtref09_CheckSign.f k l0).bind fun t515 => (if t515 = 0 then ((forecourtref09_IsClocks.f a1_0 a1_1).bind fun t516 => (some t516)) else (some false))) else (some false)) = some r := h
  clear h
  by_cases c3 : (l0.length : Int) ≤ 40
  rotate_left
  · rw [if_neg c3] at H
    have c3b0 : decide ((l0.length : Int) ≤ 40) = false := decide_eq_false c3
    have c3b1 : decide (l0.length ≤ 40) = false := decide_eq_false (by omega)
    clear c3
    obtain rfl := Option.some.inj H
    go_enter Try.func35, Try.ntmps35
    go_wp2_with (first | ((with_reducible refine gate_dst (N := 3) rfl ?_); refine bx_ (cs := #[.int .i64 a1_0, .int .i64 a1_1]) (t := 24) (fun gb514 w11 BK514 GE514 HB => ?_)))
    go_ret
    exact ⟨b4_, b1_⟩
  rw [if_pos c3] at H
  have c3b0 : decide ((l0.length : Int) ≤ 40) = true := decide_eq_true c3
  have c3b1 : decide (l0.length ≤ 40) = true := decide_eq_true (by omega)
  clear c3
  replace H := Option.bind_eq_some_iff.mp H
  obtain ⟨t515, A40, H⟩ := H
  replace H : (if t515 = 0 then ((forecourtref09_IsClocks.f a1_0 a1_1).bind fun t516 => (some t516)) else (some false)) = some r := H
  have A4 := Aside0.mk A40
  clear A40
  by_cases c5 : t515 = 0
  rotate_left
  · rw [if_neg c5] at H
    have c5b0 : (t515 == 0) = false := beq_eq_false_iff_ne.mpr c5
    have c5b1 : (t515 != 0) = true := bne_iff_ne.mpr c5
    obtain rfl := Option.some.inj H
    go_enter Try.func35, Try.ntmps35
    go_wp2_with (first | ((with_reducible refine gate_dst (N := 3) rfl ?_); refine bx_ (cs := #[.int .i64 a1_0, .int .i64 a1_1]) (t := 24) (fun gb514 w10 BK514 GE514 HB => ?_)) | (go_at_call 21; (with_reducible refine (forecourtref09_CheckSign.calls k _ _ l0 t515 _ ?side1 ?side2 A4.out).mono ?_); (case side1 => repeat (first | exact (Kd.C_below HR0.out HB.out) | (with_reducible refine Kd.C_alloc ?_ _) | (with_reducible refine Kd.C_drewN ?_ _) | (with_reducible refine Kd.C_drew ?_))); (case side2 => exact HC0.out); rintro e w' ⟨rfl, ⟨nd, rfl⟩⟩))
    go_ret
    exact ⟨b4_, b1_⟩
  rw [if_pos c5] at H
  have c5b0 : (t515 == 0) = true := beq_iff_eq.mpr c5
  have c5b1 : (t515 != 0) = false := bne_eq_false_iff_eq.mpr c5
  clear c5
  replace H := Option.bind_eq_some_iff.mp H
  obtain ⟨t516, A60, H⟩ := H
  replace H : (some t516) = some r := H
  have A6 := Aside0.mk A60
  clear A60
  obtain rfl := Option.some.inj H
  go_enter Try.func35, Try.ntmps35
  go_wp2_with (first | ((with_reducible refine gate_dst (N := 3) rfl ?_); refine bx_ (cs := #[.int .i64 a1_0, .int .i64 a1_1]) (t := 24) (fun gb514 w7 BK514 GE514 HB => ?_)) | (go_at_call 21; (with_reducible refine (forecourtref09_CheckSign.calls k _ _ l0 t515 _ ?side1 ?side2 A4.out).mono ?_); (case side1 => repeat (first | exact (Kd.C_below HR0.out HB.out) | (with_reducible refine Kd.C_alloc ?_ _) | (with_reducible refine Kd.C_drewN ?_ _) | (with_reducible refine Kd.C_drew ?_))); (case side2 => exact HC0.out); rintro e w' ⟨rfl, ⟨nd, rfl⟩⟩; obtain ⟨hcz8_0, hcz8_1, hfz8_0, hfz8_1⟩ := cz2_ BK514.out) | (go_at_call 39; (with_reducible refine (forecourtref09_IsClocks.calls a1_0 a1_1 t516 _ A6.out).mono ?_); rintro e w9 ⟨rfl, hb⟩; replace BK514 := bk_ BK514 hb; replace HB := hB_ HB hb; (try clear hb)))
  go_ret
  exact ⟨b4_, b1_⟩

end Go.Proofs.Ytcgdbjojjpoegaa.P

namespace Go.Proofs.Ytcgdbjojjpoegaa.P
open Go.RowKit Go.Proofs.YtcgdbjojjpoegaaW.PrintWords Go.Proofs.YtcgdbjojjpoegaaW.PrintLast Go.Proofs.YtcgdbjojjpoegaaW.PrintMore
attribute [local go_sem] max2_int min2_int max_two min_two max_three min_three max_four min_four   -- for this text's walks alone
set_option linter.unusedVariables false
set_option linter.unusedSimpArgs false

/-! ### forecourtlaw09_PoleFair: function 7 -/
mutual
def forecourtlaw09_PoleFair.j0 : Nat → List (S54) → List (S54) → Int → Int → Bool → Int → Int → Option (Bool)
  | 0, _, _, _, _, _, _, _ => none
  | k + 1, x0, x2, x3, x4, x35, x518000, x518001 => if x35 = true then ((forecourtlaw09_Works.f).bind fun t519 => (some t519)) else (if (wrap64 ((wrap64 (x518001 - x518000)) + 1)) = 0 then (none) else ((pole_Highest.f x0 x518000 x518001).bind fun bt520 => (if bt520.2 = 0 then ((forecourtref09_CheckSign.f k bt520.1).bind fun t524 => (forecourtlaw09_PoleFair.j1 k x0 x2 (Int.tmod (wrap64 (x3)) 2001) (wrap64 (x518000 + (Int.tmod (wrap64 (x4)) (wrap64 ((wrap64 (x518001 - x518000)) + 1))))) bt520.1 (t524 != 0) x518000 x518001)) else (forecourtlaw09_PoleFair.j1 k x0 x2 (Int.tmod (wrap64 (x3)) 2001) (wrap64 (x518000 + (Int.tmod (wrap64 (x4)) (wrap64 ((wrap64 (x518001 - x518000)) + 1))))) bt520.1 true x518000 x518001))))
def forecourtlaw09_PoleFair.j1 : Nat → List (S54) → List (S54) → Int → Int → List (S54) → Bool → Int → Int → Option (Bool)
  | 0, _, _, _, _, _, _, _, _ => none
  | k + 1, x0, x2, x11, x12, x13, x64, x518000, x518001 => if x64 = true then (some false) else ((pole_Price.f k x13 x11).bind fun bt525 => ((pole_Cheat.f x0 x13 x518000 x518001).bind fun bt527 => ((pole_Fair.f x0 x518000 x518001 x11).bind fun bt529 => (if bt525.2 = 0 then (if bt527.2 = 5 then (if bt529.2 = 0 then ((forecourtref09_At.f k x0 (wrap64 (x11 + x12))).bind fun t531 => (if bt525.1 > t531 then (forecourtlaw09_PoleFair.j2 k x0 x2 x11 x13 bt525.1 bt529.1 true x518000 x518001) else (forecourtlaw09_PoleFair.j2 k x0 x2 x11 x13 bt525.1 bt529.1 (bt525.1 != bt529.1) x518000 x518001))) else (forecourtlaw09_PoleFair.j2 k x0 x2 x11 x13 bt525.1 bt529.1 true x518000 x518001)) else (forecourtlaw09_PoleFair.j2 k x0 x2 x11 x13 bt525.1 bt529.1 true x518000 x518001)) else (forecourtlaw09_PoleFair.j2 k x0 x2 x11 x13 bt525.1 bt529.1 true x518000 x518001)))))
def forecourtlaw09_PoleFair.j2 : Nat → List (S54) → List (S54) → Int → List (S54) → Int → Int → Bool → Int → Int → Option (Bool)
  | 0, _, _, _, _, _, _, _, _, _ => none
  | k + 1, x0, x2, x11, x13, x15, x19, x108, x518000, x518001 => if x108 = true then (some false) else (forecourtlaw09_PoleFair.l0 k x0 x2 x11 x13 x15 x19 1 x518000 x518001)
def forecourtlaw09_PoleFair.l0 : Nat → List (S54) → List (S54) → Int → List (S54) → Int → Int → Int → Int → Int → Option (Bool)
  | 0, _, _, _, _, _, _, _, _, _ => none
  | k + 1, x0, x2, x11, x13, x15, x19, x21, x518000, x518001 => if x21 < (x13.length : Int) then (if 0 ≤ x21 then (if 0 ≤ (wrap64 (x21 - 1)) then (if (wrap64 (x21 - 1)) < (x13.length : Int) then (if ((rd_T54 x13 x21).f1) = ((rd_T54 x13 (wrap64 (x21 - 1))).f1) then (some false) else (forecourtlaw09_PoleFair.l0 k x0 x2 x11 x13 x15 x19 (wrap64 (x21 + 1)) x518000 x518001)) else (none)) else (none)) else (none)) else ((forecourtref09_CheckSign.f k x2).bind fun t534 => (if t534 = 0 then ((pole_Cheat.f x0 x2 x518000 x518001).bind fun bt536 => ((pole_Price.f k x2 x11).bind fun bt538 => (if bt538.2 = 0 then (if bt536.2 = 0 then (forecourtlaw09_PoleFair.j4 k x0 x2 x11 bt536.2 x15 x19 bt536.1 bt538.1 false x518000 x518001) else (forecourtlaw09_PoleFair.j4 k x0 x2 x11 bt536.2 x15 x19 bt536.1 bt538.1 (bt536.2 != 5) x518000 x518001)) else (forecourtlaw09_PoleFair.j4 k x0 x2 x11 bt536.2 x15 x19 bt536.1 bt538.1 true x518000 x518001)))) else ((forecourtlaw09_Works.f).bind fun t535 => (some t535))))
def forecourtlaw09_PoleFair.j4 : Nat → List (S54) → List (S54) → Int → Int → Int → Int → Int → Int → Bool → Int → Int → Option (Bool)
  | 0, _, _, _, _, _, _, _, _, _, _, _ => none
  | k + 1, x0, x2, x11, x14, x15, x19, x22, x23, x153, x518000, x518001 => if x153 = true then (some false) else (if x14 = 5 then (if x23 ≤ x15 then ((forecourtlaw09_Works.f).bind fun t540 => (some t540)) else (some false)) else (if x22 < 0 then (forecourtlaw09_PoleFair.j5 k x0 x2 x22 true x518000 x518001) else (if x22 > 2000 then (forecourtlaw09_PoleFair.j5 k x0 x2 x22 true x518000 x518001) else (if x11 < x22 then (forecourtlaw09_PoleFair.j5 k x0 x2 x22 (decide (x23 > x19)) x518000 x518001) else (forecourtlaw09_PoleFair.j5 k x0 x2 x22 false x518000 x518001)))))
def forecourtlaw09_PoleFair.j5 : Nat → List (S54) → List (S54) → Int → Bool → Int → Int → Option (Bool)
  | 0, _, _, _, _, _, _ => none
  | k + 1, x0, x2, x22, x177, x518000, x518001 => if x177 = true then (some false) else ((pole_Price.f k x2 x22).bind fun bt541 => ((pole_Fair.f x0 x518000 x518001 x22).bind fun bt543 => (if bt541.2 = 0 then (if bt543.2 = 0 then (if bt541.1 > bt543.1 then ((forecourtlaw09_Works.f).bind fun t545 => (some t545)) else (some false)) else (some false)) else (some false))))
end
def forecourtlaw09_PoleFair.f (k : Nat) (l0 : List (S54)) (a1_0 : Int) (a1_1 : Int) (l2 : List (S54)) (a3 : Int) (a4 : Int) : Option (Bool) := (forecourtlaw09_fine.f k l0 a1_0 a1_1).bind fun t518 => (if t518 = true then (forecourtlaw09_PoleFair.j0 k l0 l2 a3 a4 (decide ((l2.length : Int) > 40)) a1_0 a1_1) else (forecourtlaw09_PoleFair.j0 k l0 l2 a3 a4 true a1_0 a1_1))
end Go.Proofs.Ytcgdbjojjpoegaa.P

/- The plain law of PoleFair: the printed function answers yes. -/
namespace Go.Proofs.Ytcgdbjojjpoegaa.P
open Go.RowKit
set_option maxRecDepth 20000
theorem rng_u8 {a : Int} (w : (Lit.int .u8 a).wf = true) : 0 ≤ a ∧ a ≤ 255 := by
  have h : (0 : Int) ≤ a ∧ a ≤ 255 := by simpa [Lit.wf, IntKind.min, IntKind.max, IntKind.signed, IntKind.bits] using w
  exact h
theorem rng_u16 {a : Int} (w : (Lit.int .u16 a).wf = true) : 0 ≤ a ∧ a ≤ 65535 := by
  have h : (0 : Int) ≤ a ∧ a ≤ 65535 := by simpa [Lit.wf, IntKind.min, IntKind.max, IntKind.signed, IntKind.bits] using w
  exact h
/-- what law and program take as sign and clocks -/
theorem fine_eq (l : List S54) (lo hi : Int) (k : Nat) (hk : 100 ≤ k) : forecourtlaw09_fine.f k l lo hi = some (decide (signE l = 0 ∧ clockB lo hi = true)) := by
  unfold forecourtlaw09_fine.f
  rw [refCS l k hk, isClocks_eq]
  simp only [Option.bind_some]
  by_cases h : signE l = 0
  · have := (signE_sign h).le
    rw [if_pos (by omega), if_pos h]
    cases clockB lo hi <;> simp [h]
  · rw [if_neg h]
    simp [h]
theorem pole_Fair_eq {l : List S54} (hl : signE l = 0) {lo hi m : Int} (hc : Clk lo hi) (h0 : 0 ≤ m) (h1 : m ≤ 2000) : pole_Fair.f l lo hi m = some (fairV l lo hi m, 0) := by
  unfold pole_Fair.f pole_within.f
  rw [checkClocks_eq, if_pos hl, if_pos (clockB_iff.2 hc)]
  simp only [Option.bind_some]
  rw [if_pos trivial, show withinB 0 2000 [m] = true from withinB_1.2 ⟨h0, h1⟩, if_pos rfl, (fairV_some (signE_sign hl) hc (by omega) (by omega)).1]
  rfl
end Go.Proofs.Ytcgdbjojjpoegaa.P

namespace Go.Proofs.Ytcgdbjojjpoegaa.P
open Go.RowKit Go.Proofs.YtcgdbjojjpoegaaW.PrintWords Go.Proofs.YtcgdbjojjpoegaaW.PrintLast Go.Proofs.YtcgdbjojjpoegaaW.PrintMore
set_option linter.unusedVariables false
set_option linter.unusedSimpArgs false

/-- prices so many times as great -/
def mulP (t : Int) (l : List S54) : List S54 := l.map fun p => ⟨p.f0, t * p.f1⟩
theorem mulP_len (t : Int) (l : List S54) : (mulP t l).length = l.length := by simp [mulP]
theorem rd_mulP (t : Int) (l : List S54) (i : Nat) (h : i < l.length) : rd_T54 (mulP t l) (i : Int) = ⟨(rd_T54 l i).f0, t * (rd_T54 l i).f1⟩ := by
  rw [rdP _ i (by rw [mulP_len]; exact h), rdP l i h]
  simp [mulP]
theorem AtI.mul {l : List S54} {m : Int} {j : Nat} (h : AtI l m j) (t : Int) : AtI (mulP t l) m j := by
  refine ⟨by rw [mulP_len]; exact h.lt, ?_, fun i hi hi' => ?_⟩
  · rw [rd_mulP t l j h.lt]
    exact h.le
  · rw [mulP_len] at hi'
    rw [rd_mulP t l i hi']
    exact h.gt i hi hi'
theorem atV_mul {l : List S54} (hs : Sign l) (t m : Int) : atV (mulP t l) m = t * atV l m := by
  obtain ⟨j, hj, _⟩ := at_ex l m hs.pos hs.le
  rw [hj.val hs.le, (hj.mul t).val (by rw [mulP_len]; exact hs.le), rd_mulP t l j hj.lt]
theorem fairV_mul {l : List S54} (hs : Sign l) {t : Int} (hx : Sign (mulP t l)) (ht : 1 ≤ t) {lo hi m : Int} (hc : Clk lo hi) (h1 : -10000 ≤ m) (h2 : m ≤ 10000) : fairV (mulP t l) lo hi m = t * fairV l lo hi m := by
  obtain ⟨⟨t1, a1, b1, e1⟩, g1⟩ := (fairV_some hs hc h1 h2).2
  obtain ⟨⟨t2, a2, b2, e2⟩, g2⟩ := (fairV_some hx hc h1 h2).2
  have k1 := g2 t1 a1 b1
  have k2 := g1 t2 a2 b2
  rw [atV_mul hs] at k1 e2
  have k3 := Int.mul_le_mul_of_nonneg_left k2 (show 0 ≤ t by omega)
  rw [← e1] at k1
  rw [← e2] at k3
  exact Int.le_antisymm k1 k3
theorem fairV_shift (l : List S54) {lo hi m d : Int} (hc : Clk lo hi) (h1 : -10000 ≤ m) (h2 : m ≤ 10000) (d1 : 0 ≤ d) (d2 : d ≤ 10000) : fairV l (lo + d) (hi + d) m = fairV l lo hi (m + d) := by
  have ha := hc.a
  have hb := hc.b
  have hcc := hc.c
  unfold fairV pole_fair.f
  rw [wrap_ok (m + (lo + d)) (by omega) (by omega), wrap_ok (m + (hi + d)) (by omega) (by omega), wrap_ok (m + d + lo) (by omega) (by omega), wrap_ok (m + d + hi) (by omega) (by omega), show m + (lo + d) = m + d + lo by omega, show m + (hi + d) = m + d + hi by omega]
theorem fairV_wide {l : List S54} (hs : Sign l) {lo hi lo' hi' m : Int} (hc : Clk lo hi) (hc' : Clk lo' hi') (h1 : lo' ≤ lo) (h2 : hi ≤ hi') (h3 : -10000 ≤ m) (h4 : m ≤ 10000) : fairV l lo' hi' m ≤ fairV l lo hi m := by
  obtain ⟨⟨t1, a1, b1, e1⟩, _⟩ := (fairV_some hs hc h3 h4).2
  rw [e1]
  exact (fairV_some hs hc' h3 h4).2.2 t1 (by omega) (by omega)
theorem sign_one {l : List S54} (hs : Sign l) : signE (l.take 1) = 0 := by
  have hp := hs.pos
  have hz := hs.z
  have h1 := hs.p1 0 hp
  have e0 : rd_T54 l ((0 : Nat) : Int) = l[0] := rdP l 0 hp
  rw [e0] at h1
  rw [show rd_T54 l 0 = l[0] from e0] at hz
  have e : l.take 1 = [l[0]] := by
    cases l with
    | nil => simp at hp
    | cons p l => rfl
  rw [e]
  unfold signE
  rw [if_neg (by simp), badFrom_no _ _ _ ?_, if_neg (by decide), if_neg]
  · rw [Bool.not_eq_true, List.any_eq_false]
    intro p hp'
    rw [List.mem_singleton] at hp'
    rw [hp', badPrice_iff]
    omega
  · intro i hi
    have : i = 0 := by simpa using hi
    subst this
    simp only [List.getElem_cons_zero]
    exact ⟨fun _ => ⟨by omega, fun _ => by omega⟩, by omega, fun hj => by simp at hj⟩
theorem fairV_one {l : List S54} (hs : Sign l) {lo hi m : Int} (hc : Clk lo hi) (h3 : -10000 ≤ m) (h4 : m ≤ 10000) : fairV (l.take 1) lo hi m = (rd_T54 l 0).f1 := by
  have h1 := signE_sign (sign_one hs)
  obtain ⟨a, b, _, hb, ⟨i, h5, h6, h7⟩, _⟩ := fairI h1 hc h3 h4
  have hlt := hb.lt
  have hl : (l.take 1).length ≤ 1 := by simp; omega
  have : i = 0 := by omega
  subst this
  rw [h7, show rd_T54 l 0 = rd_T54 l ((0 : Nat) : Int) from rfl, rdP l 0 hs.pos, rdP _ 0 h1.pos]
  simp
theorem Clk.wide {lo hi x y : Int} (hc : Clk lo hi) (hx : 0 ≤ x) (hy : 0 ≤ y) : Clk (max (-100) (lo - x)) (min 100 (hi + y)) := by
  have ha := hc.a
  have hb := hc.b
  have hcc := hc.c
  exact ⟨by omega, by omega, by omega⟩
theorem mulP_take (t : Int) (l : List S54) (i : Nat) (h : i < l.length) : mulP t (l.take (i + 1)) = mulP t (l.take i) ++ [⟨l[i].f0, t * l[i].f1⟩] := by
  unfold mulP
  rw [List.take_succ_eq_append_getElem h, List.map_append]
  rfl
/-- append of a price (in a block of its own) to prices of the call's own, or to none -/
theorem app22 {W : World} {base : Nat} {v : Value} {xs : List S54} (h : Kd.R k54 54 W base (fun _ => True) v xs) (hl : xs.length < 1000000) (x : S54) (hbase : base ≤ W.heap.size) :
    ∃ A c w', (∀ ty, (Builtin.append_ #[22, 22] ty #[v, .slice (some ⟨W.heap.size, 0, none⟩) 1 1]).run Try.prog (W.alloc (.cells #[.int .i64 x.f0, .int .i64 x.f1] 54)) = .ok (.slice A (xs.length + 1) c) w') ∧
      Kd.R k54 54 w' base (fun _ => True) (.slice A (xs.length + 1) c) (xs ++ [x]) ∧ (W.alloc (.cells #[.int .i64 x.f0, .int .i64 x.f1] 54)).grownBy w' v.ownBlock := by
  obtain ⟨ti, hi, hz, hs, hby⟩ := info_parts info54
  have hmx : maxLen = 9223372036854775807 := rfl
  have hga : W.grownBy (W.alloc (.cells #[.int .i64 x.f0, .int .i64 x.f1] 54)) none := World.grownBy_alloc _ _ _
  have hnew : ∀ j u, [Value.int .i64 x.f0, Value.int .i64 x.f1][j]? = some u → (W.alloc (.cells #[.int .i64 x.f0, .int .i64 x.f1] 54)).cell? ((⟨W.heap.size, 0, none⟩ : Addr).add j) = some u := by
    intro j u hu
    rw [Addr.add_lit, Nat.zero_add, blk_cell (blk_new W _)]
    rw [← Array.getElem?_toList]
    exact hu
  obtain ⟨h0, inner, ho, hrep⟩ := h
  have h1 := own_below ho (below_alloc (Below.refl W.heap.size W) (.cells #[.int .i64 x.f0, .int .i64 x.f1] 54))
  obtain ⟨v', w', ha, h2, h3, _⟩ := run_append_own (P := Try.prog) (w := W.alloc (.cells #[.int .i64 x.f0, .int .i64 x.f1] 54)) base 22 22 54 ti (.agg #[.int .i64 0, .int .i64 0]) 2 16 Try.underlying22 hi hz hs hby rfl (by decide) v xs.length inner h1 ⟨W.heap.size, 0, none⟩ 1 1 [.int .i64 x.f0, .int .i64 x.f1] rfl hnew (by simp [Value.oneCell']) (by omega) (by omega) (by simp; omega)
  obtain ⟨A', c', e, _⟩ := h2.form (by omega)
  subst e
  refine ⟨_, _, w', fun ty => ha, ⟨fun _ _ => trivial, inner ++ [.int .i64 x.f0, .int .i64 x.f1], ?_, ?_⟩, h3⟩
  · rw [List.length_append]
    exact h2
  · have h2 : Reps (k54.M w' base fun k => True ∧ some k ≠ (Value.slice (some ⟨A', 0, none⟩) (xs.length + 1) c').ownBlock) k54.sz xs inner := ⟨hrep.1, fun j p hp => m54_any p _ (hrep.2 j p hp)⟩
    exact h2.snoc (k54_mkM _ _ _ _) rfl
end Go.Proofs.Ytcgdbjojjpoegaa.P

namespace Go.Proofs.Ytcgdbjojjpoegaa.P
open Go.RowKit Go.Shelf Go.Proofs.YtcgdbjojjpoegaaW.PrintWords Go.Proofs.YtcgdbjojjpoegaaW.PrintLast Go.Proofs.YtcgdbjojjpoegaaW.PrintMore Go.Proofs.YtcgdbjojjpoegaaM Go.Proofs.YtcgdbjojjpoegaaR
set_option linter.unusedVariables false
set_option linter.unusedSimpArgs false
set_option maxRecDepth 100000

def clocks8.T7 : Bool × List (List Nat × List Nat) := (true, [([], []), ([0], [0]), ([], []), ([], []), ([1, 2, 3], [1, 2, 3]), ([4], [4]), ([5], [5]), ([5], [5]), ([6, 4, 0, 1, 2, 3, 4, 5, 6], [6]), ([7, 8, 0, 1, 2, 3, 4, 5, 6, 7, 8], [7])])
def clocks8.B7 : List Nat := [0, 1, 0, 0, 15, 31, 63, 63, 127, 511]
theorem clocks8.tab7 : rtab .any (opsOf Try.f8 7) = clocks8.T7 := by kernel_rfl
theorem clocks8.bits7 : waitsOk clocks8.T7.2 clocks8.B7 = true := by kernel_rfl
def clocks8.T15 : Bool × List (List Nat × List Nat) := (true, [([], []), ([], []), ([], []), ([1, 2], [1, 2]), ([3], [3]), ([4], [4]), ([], []), ([], []), ([], []), ([7, 8], [7, 8]), ([9], [9]), ([10], [10]), ([6, 11], [6, 11]), ([5, 12], [5, 12]), ([13], [13]), ([0, 14, 13], [0, 14]), ([15, 15, 0, 1, 2, 3, 4, 5, 6, 7, 8, 9, 10, 11, 12, 13, 14, 15], [0, 15])])
def clocks8.B15 : List Nat := [0, 0, 0, 6, 14, 30, 0, 0, 0, 384, 896, 1920, 4032, 8190, 16382, 32767, 65535]
theorem clocks8.tab15 : rtab .any (opsOf Try.f8 15) = clocks8.T15 := by kernel_rfl
theorem clocks8.bits15 : waitsOk clocks8.T15.2 clocks8.B15 = true := by kernel_rfl
/-- What is read all along. -/
structure LC (w W : World) (gy gz : Nat) (a b x1 x2 : Int) (A : Option Addr) (c : Nat) (l : List S54) : Prop where
  y : W.heap[gy]? = some (.cells #[.int .i64 a, .int .i64 b] 24 (0, 0))
  z : W.heap[gz]? = some (.cells #[.int .u8 x1, .int .u8 x2] 56 (0, 0))
  C : Kd.C k54 W A l.length l
  hc : l.length ≤ c
  g : Below w.heap.size w W
theorem LC.below {w W W' : World} {gy gz : Nat} {a b x1 x2 : Int} {A : Option Addr} {c : Nat} {l : List S54} (h : LC w W gy gz a b x1 x2 A c l) (hb : Below W.heap.size W W') : LC w W' gy gz a b x1 x2 A c l :=
  ⟨blk_below h.y hb, blk_below h.z hb, Kd.C_below h.C hb, h.hc, below_then h.g h.g.size hb⟩
theorem LC.init (w : World) (a b x1 x2 : Int) (A : Option Addr) (c : Nat) (l : List S54) (hC : Kd.C k54 w A l.length l) (hc : l.length ≤ c) :
    LC w ((w.alloc (.cells #[.int .i64 a, .int .i64 b] 24)).alloc (.cells #[.int .u8 x1, .int .u8 x2] 56)) w.heap.size (w.heap.size + 1) a b x1 x2 A c l := by
  have g1 := boxes2 w (.cells #[.int .i64 a, .int .i64 b] 24) (.cells #[.int .u8 x1, .int .u8 x2] 56)
  have e1 := blk_new (w.alloc (.cells #[.int .i64 a, .int .i64 b] 24)) (.cells #[.int .u8 x1, .int .u8 x2] 56)
  simp only [World.size_alloc] at e1
  exact ⟨blk_alloc (blk_new _ _) _, e1, Kd.C_below hC g1, hc, g1⟩
set_option maxHeartbeats 8000000 in
set_option maxRecDepth 100000 in
theorem clocksW (A0 : Option Addr) (c0 : Nat) (l0 : List S54) (a b x1 x2 t0 m0 z0 : Int) (w : World) (hr0 : Kd.C k54 w A0 l0.length l0) (hc0 : l0.length ≤ c0) (h1 : 0 ≤ x1 ∧ x1 ≤ 255) (h2 : 0 ≤ x2 ∧ x2 ≤ 255) (h3 : 0 ≤ t0 ∧ t0 ≤ 255) (h4 : 0 ≤ m0 ∧ m0 ≤ 65535) (h5 : 0 ≤ z0 ∧ z0 ≤ 65535) :
    Calls Try.prog 8 #[.slice A0 l0.length c0, .agg #[.int .i64 a, .int .i64 b], .agg #[.int .u8 x1, .int .u8 x2], .int .u8 t0, .int .u16 m0, .int .u16 z0] w fun e w' => e = .returned (.bool true) ∧ Below w.heap.size w w' := by
  have hfe := fine_eq l0 a b 3000 (by omega)
  obtain ⟨F, hF⟩ : ∃ F, decide (signE l0 = 0 ∧ clockB a b = true) = F := ⟨_, rfl⟩
  rw [hF] at hfe
  have HQ := Lib.hid (LC.init w a b x1 x2 A0 c0 l0 hr0 hc0)
  have HFE := Lib.hid hfe
  clear hfe hr0
  go_enter Try.func8, Try.ntmps8
  go_upto_region 1 with (fail)
  generalize (w.alloc (.cells #[.int .i64 a, .int .i64 b] 24)).alloc (.cells #[.int .u8 x1, .int .u8 x2] 56) = W0 at *
  obtain ⟨gy, eg0⟩ : ∃ gy, w.heap.size = gy := ⟨_, rfl⟩
  rw [eg0] at HQ ⊢
  generalize eg1 : gy + 1 = gz at *
  clear eg1
  have y0 : W0.cell? ⟨gy, 0, none⟩ = some (.int .i64 a) := (blk_cell HQ.out.y 0).trans rfl
  have y1 : W0.cell? ⟨gy, 1, none⟩ = some (.int .i64 b) := (blk_cell HQ.out.y 1).trans rfl
  cases F with
  | false => as_aux_lemma =>
    go_wp2_with (first
      | (go_at_call 35; refine (forecourtlaw09_fine.calls 3000 A0 c0 l0 a b false _ HQ.out.C HQ.out.hc HFE.out).mono ?_; rintro e W1 ⟨rfl, hb⟩; have HB := Lib.hid hb; clear hb)
      | (go_at_call 15; refine (works_calls _).mono ?_; rintro e W2 ⟨rfl, hb⟩; have HB2 := Lib.hid hb; clear hb))
    go_ret
    exact ⟨rfl, by rw [← eg0] at *; exact (HQ.out.below HB.out).g.trans (HB2.out.mono (Nat.le_trans HQ.out.g.size HB.out.size))⟩
  | true =>
    have hF := of_decide_eq_true hF
    have hs := signE_sign hF.1
    have hc := clockB_iff.1 hF.2
    have HS := Lib.hid hF.1
    have HSG := Lib.hid hs
    have HCL := Lib.hid hc
    have ha1 := hc.a
    have ha2 := hc.b
    have ha3 := hc.c
    clear hF hs hc
    go_upto_region 3 with (go_at_call 35; refine (forecourtlaw09_fine.calls 3000 A0 c0 l0 a b true _ HQ.out.C HQ.out.hc HFE.out).mono ?_; rintro e W1 ⟨rfl, hb⟩; have HB := Lib.hid hb; clear hb)
    clear HFE
    clear y0 y1
    replace HQ := Lib.hid (HQ.out.below HB.out)
    clear HB
    go_upto_region 4 with (fail)
    obtain ⟨m, hm⟩ : ∃ m, m0 % 2001 = m := ⟨_, rfl⟩
    rw [hm]
    have hm1 : 0 ≤ m ∧ m ≤ 2000 := by omega
    clear hm h4
    have hl30 := HSG.out.le
    have hlp := HSG.out.pos
    have hw1 : max (-100) (wrap64 (a - wrap64 x1)) = max (-100) (a - x1) := by rw [wrap_ok x1 (by omega) (by omega), wrap_ok _ (by omega) (by omega)]
    have hw2 : min 100 (wrap64 (b + wrap64 x2)) = min 100 (b + x2) := by rw [wrap_ok x2 (by omega) (by omega), wrap_ok _ (by omega) (by omega)]
    have HCW := Lib.hid (HCL.out.wide h1.1 h2.1)
    have HF1 := Lib.hid (pole_Fair_eq HS.out HCL.out hm1.1 hm1.2)
    have HF2 := Lib.hid (pole_Fair_eq HS.out HCW.out hm1.1 hm1.2)
    have HFW := Lib.hid (fairV_wide HSG.out HCL.out HCW.out (m := m) (by omega) (by omega) (by omega) (by omega))
    have HF3 := Lib.hid (show pole_Fair.f (l0.take 1) a b m = some ((rd_T54 l0 0).f1, 0) by
      rw [pole_Fair_eq (sign_one HSG.out) HCL.out hm1.1 hm1.2, fairV_one HSG.out HCL.out (by omega) (by omega)])
    have HFR := Lib.hid (fairV_rng HSG.out HCL.out (m := m) (by omega) (by omega))
    have y0 : W1.cell? ⟨gy, 0, none⟩ = some (.int .i64 a) := (blk_cell HQ.out.y 0).trans rfl
    have y1 : W1.cell? ⟨gy, 1, none⟩ = some (.int .i64 b) := (blk_cell HQ.out.y 1).trans rfl
    have z0 : W1.cell? ⟨gz, 0, none⟩ = some (.int .u8 x1) := (blk_cell HQ.out.z 0).trans rfl
    have z1 : W1.cell? ⟨gz, 1, none⟩ = some (.int .u8 x2) := (blk_cell HQ.out.z 1).trans rfl
    go_upto_region 5 with (go_at_call 37; refine (forecourtlaw09_rg.calls (max (-100) (a - x1)) (min 100 (b + x2)) _ _ _ (y_rg _ _)).mono ?_; rintro e W2 ⟨rfl, hb⟩; have HB := Lib.hid hb; clear hb)
    clear hw1 hw2
    clear y0 y1 z0 z1
    replace HQ := Lib.hid (HQ.out.below HB.out)
    clear HB
    have HV := Lib.hid (blk_new W2 (.cells #[.int .i64 (max (-100) (a - x1)), .int .i64 (min 100 (b + x2))] 24))
    have HB := Lib.hid ((Below.refl W2.heap.size W2).alloc (Nat.le_refl _) (.cells #[.int .i64 (max (-100) (a - x1)), .int .i64 (min 100 (b + x2))] 24))
    replace HQ := Lib.hid (HQ.out.below HB.out)
    clear HB
    generalize W2.alloc (.cells #[.int .i64 (max (-100) (a - x1)), .int .i64 (min 100 (b + x2))] 24) = W3 at *
    generalize W2.heap.size = gv at *
    generalize fairV l0 (max (-100) (a - x1)) (min 100 (b + x2)) m = fw at *
    obtain ⟨fa, hfa⟩ : ∃ fa, fairV l0 a b m = fa := ⟨_, rfl⟩
    rw [hfa] at HF1 HFW HFR
    have HFA := Lib.hid hfa
    clear hfa
    have y0 : W3.cell? ⟨gy, 0, none⟩ = some (.int .i64 a) := (blk_cell HQ.out.y 0).trans rfl
    have y1 : W3.cell? ⟨gy, 1, none⟩ = some (.int .i64 b) := (blk_cell HQ.out.y 1).trans rfl
    have v0 : W3.cell? ⟨gv, 0, none⟩ = some (.int .i64 (max (-100) (a - x1))) := (blk_cell HV.out 0).trans rfl
    have v1 : W3.cell? ⟨gv, 1, none⟩ = some (.int .i64 (min 100 (b + x2))) := (blk_cell HV.out 1).trans rfl
    go_upto_region 6 with (go_at_call 18; refine (pole_Fair.calls A0 c0 l0 a b m fa 0 _ HQ.out.C HQ.out.hc HF1.out).mono ?_; rintro e W4 ⟨rfl, hb⟩; have HB := Lib.hid hb; clear hb)
    clear HF1
    clear y0 y1 v0 v1
    replace HQ := Lib.hid (HQ.out.below HB.out)
    replace HV := Lib.hid (blk_below HV.out HB.out)
    clear HB
    have y0 : W4.cell? ⟨gy, 0, none⟩ = some (.int .i64 a) := (blk_cell HQ.out.y 0).trans rfl
    have y1 : W4.cell? ⟨gy, 1, none⟩ = some (.int .i64 b) := (blk_cell HQ.out.y 1).trans rfl
    have v0 : W4.cell? ⟨gv, 0, none⟩ = some (.int .i64 (max (-100) (a - x1))) := (blk_cell HV.out 0).trans rfl
    have v1 : W4.cell? ⟨gv, 1, none⟩ = some (.int .i64 (min 100 (b + x2))) := (blk_cell HV.out 1).trans rfl
    go_upto_region 7 with (go_at_call 18; refine (pole_Fair.calls A0 c0 l0 (max (-100) (a - x1)) (min 100 (b + x2)) m fw 0 _ HQ.out.C HQ.out.hc HF2.out).mono ?_; rintro e W5 ⟨rfl, hb⟩; have HB := Lib.hid hb; clear hb)
    clear HF2
    clear y0 y1 v0 v1
    replace HQ := Lib.hid (HQ.out.below HB.out)
    clear HB
    clear HV HCW
    obtain ⟨Wd, ed⟩ : ∃ Wd, W5.drew = Wd := ⟨_, rfl⟩
    have HB := Lib.hid (show Below W5.heap.size W5 Wd from by rw [← ed]; exact below_drew (Below.refl _ _))
    replace HQ := Lib.hid (HQ.out.below HB.out)
    clear HB
    obtain ⟨ad, eA, hc00, hc01⟩ := at_T54 HQ.out.C 0 (by omega) (by omega)
    subst eA
    have q1 : (1 : Int) ≤ (c0 : Int) := by omega
    have q2 : 1 ≤ c0 := by omega
    have q3 : 0 < l0.length := hlp
    have q4 : (1 : Int) ≤ (l0.length : Int) := by omega
    have hl1 : (l0.take 1).length = 1 := by simp; omega
    have HT1 := Lib.hid (show Kd.C k54 Wd (some ad) (l0.take 1).length (l0.take 1) by rw [hl1]; exact C_take HQ.out.C 1 (by omega))
    clear hc00 hc01
    refine start_ (n := 10) (S := fun w' => w'.cell? ⟨gy, 0, none⟩ = some (.int .i64 a) ∧ w'.cell? ⟨gy, 1, none⟩ = some (.int .i64 b)) (ds := []) #[false, false, false, false, false, false, false, false, false, false] (by kernel_rfl) rfl rfl (by rw [ed]; exact ⟨(blk_cell HQ.out.y 0).trans rfl, (blk_cell HQ.out.y 1).trans rfl⟩) (fun hHeld => ?_); refine with_tabW clocks8.tab7 clocks8.bits7 (fun HT_ HW_ => ?_)
    rw [ed] at hHeld ⊢
    refine pure_ (i := 0) (N := some 68) (v := ?_) (a' := ?_) #[true, false, false, false, false, false, false, false, false, false] rfl rfl (any_of HT_.out (by kernel_rfl)) (fun _ _ _ h => h) (Or.inl ⟨by rfl, ?_⟩) ?_ ?_
    rotate_left
    · intro w'
      go_simp
      with_reducible rfl
    rotate_left
    · simp only [Act.put, List.setIfInBounds_toArray, List.set_cons_zero, List.set_cons_succ, i64_w, i32_w]
      rfl
    refine pure_ (i := 1) (N := some 69) (v := ?_) (a' := ?_) #[true, true, false, false, false, false, false, false, false, false] rfl rfl (any_of HT_.out (by kernel_rfl)) (fun _ _ _ h => h) (Or.inl ⟨by rfl, ?_⟩) ?_ ?_
    rotate_left
    · intro w'
      go_simp
      with_reducible rfl
    rotate_left
    · simp only [Act.put, List.setIfInBounds_toArray, List.set_cons_zero, List.set_cons_succ, i64_w, i32_w]
      rfl
    refine pure_ (i := 3) (N := some 71) (v := ?_) (a' := ?_) #[true, true, false, true, false, false, false, false, false, false] rfl rfl (any_of HT_.out (by kernel_rfl)) (fun _ _ _ h => h) (Or.inl ⟨by rfl, ?_⟩) ?_ ?_
    rotate_left
    · intro w'
      go_simp
      with_reducible rfl
    rotate_left
    · simp only [Act.put, List.setIfInBounds_toArray, List.set_cons_zero, List.set_cons_succ, i64_w, i32_w]
      rfl
    refine take_ (i := 2) (N := some 70) (v := ?_) (a' := ?_) #[true, true, true, true, false, false, false, false, false, false] rfl rfl (take_ofW HT_.out HW_.out (by kernel_rfl)) (fun _ _ _ h => h) (Or.inl ⟨by rfl, ?_⟩) hHeld ?_ ?_
    rotate_left
    · rintro w' ⟨s0, s1⟩
      go_simp
      with_reducible rfl
    rotate_left
    · simp only [Act.put, List.setIfInBounds_toArray, List.set_cons_zero, List.set_cons_succ, i64_w, i32_w]
      rfl
    refine one_ (i := 4) (N := some 72) #[true, true, true, true, true, false, false, false, false, false] rfl rfl (one_of HT_.out (by kernel_rfl)) (by decide) (fun K hK => ?_)
    refine goes_ Try.func18 (by kernel_rfl) rfl #[.slice (some ad) (l0.take 1).length c0, .agg #[.int .i64 a, .int .i64 b], .int .i64 m] (by rfl) rfl rfl (by (try simp only [List.map_toArray, List.map_cons, List.map_nil]); first | done | (rw [hl1]; rfl) | rfl) ?_
    refine (pole_Fair.calls (some ad) c0 (l0.take 1) a b m _ 0 Wd HT1.out (by rw [hl1]; exact q2) HF3.out).mono ?_
    rintro e W6 ⟨rfl, hb⟩
    refine ⟨_, rfl, ?_⟩
    have HB := Lib.hid hb
    clear hb
    replace HQ := Lib.hid (HQ.out.below HB.out)
    clear HB
    refine hK.out _ _ ⟨(blk_cell HQ.out.y 0).trans rfl, (blk_cell HQ.out.y 1).trans rfl⟩ (fun hHeld => ?_)
    clear hK K
    refine norm_ (a' := ?_) ?_ ?_
    rotate_left
    · show Act.put _ (some 72) _ = _
      simp only [Act.put, List.setIfInBounds_toArray, List.set_cons_zero, List.set_cons_succ, i64_w, i32_w]
      rfl
    refine pure_ (i := 5) (N := some 67) (v := ?_) (a' := ?_) #[true, true, true, true, true, true, false, false, false, false] rfl rfl (any_of HT_.out (by kernel_rfl)) (fun _ _ _ h => h) (Or.inl ⟨by rfl, ?_⟩) ?_ ?_
    rotate_left
    · intro w'
      go_simp
      with_reducible rfl
    rotate_left
    · simp only [Act.put, List.setIfInBounds_toArray, List.set_cons_zero, List.set_cons_succ, i64_w, i32_w]
      rfl
    refine pure_ (i := 6) (N := some 73) (v := ?_) (a' := ?_) #[true, true, true, true, true, true, true, false, false, false] rfl rfl (any_of HT_.out (by kernel_rfl)) (fun _ _ _ h => h) (Or.inl ⟨by rfl, ?_⟩) ?_ ?_
    rotate_left
    · intro w'
      go_simp
      with_reducible rfl
    rotate_left
    · simp only [Act.put, List.setIfInBounds_toArray, List.set_cons_zero, List.set_cons_succ, i64_w, i32_w]
      rfl
    refine pure_ (i := 7) (N := some 74) (v := ?_) (a' := ?_) #[true, true, true, true, true, true, true, true, false, false] rfl rfl (any_of HT_.out (by kernel_rfl)) (fun _ _ _ h => h) (Or.inl ⟨by rfl, ?_⟩) ?_ ?_
    rotate_left
    · intro w'
      go_simp
      with_reducible rfl
    rotate_left
    · simp only [Act.put, List.setIfInBounds_toArray, List.set_cons_zero, List.set_cons_succ, i64_w, i32_w]
      rfl
    refine pure_ (i := 8) (N := some 19) (v := ?_) (a' := ?_) #[true, true, true, true, true, true, true, true, true, false] rfl rfl (any_of HT_.out (by kernel_rfl)) (fun _ _ _ h => h) (Or.inl ⟨by rfl, ?_⟩) ?_ ?_
    rotate_left
    · intro w'
      go_simp
      with_reducible rfl
    rotate_left
    · simp only [Act.put, List.setIfInBounds_toArray, List.set_cons_zero, List.set_cons_succ, i64_w, i32_w]
      rfl
    refine pure_ (i := 9) (N := some 20) (v := ?_) (a' := ?_) #[true, true, true, true, true, true, true, true, true, true] rfl rfl (any_of HT_.out (by kernel_rfl)) (fun _ _ _ h => h) (Or.inl ⟨by rfl, ?_⟩) ?_ ?_
    rotate_left
    · intro w'
      go_simp
      with_reducible rfl
    rotate_left
    · simp only [Act.put, List.setIfInBounds_toArray, List.set_cons_zero, List.set_cons_succ, i64_w, i32_w]
      rfl
    refine done_ (done_of HT_.out (by kernel_rfl)) ?_
    clear hHeld HT_ HW_ ed HT1 HF3 hl1
    have y0 : W6.cell? ⟨gy, 0, none⟩ = some (.int .i64 a) := (blk_cell HQ.out.y 0).trans rfl
    have y1 : W6.cell? ⟨gy, 1, none⟩ = some (.int .i64 b) := (blk_cell HQ.out.y 1).trans rfl
    have u1 : decide (fa < fw) = false := decide_eq_false (by have := HFW.out; omega)
    have hq0 : W6.cell? ⟨ad.block, ad.off + 1, none⟩ = some (.int .i64 (rd_T54 l0 0).f1) := by
      obtain ⟨ad', e9, _, h9⟩ := at_T54 HQ.out.C 0 (by omega) (by omega)
      injection e9 with e9
      subst e9
      exact h9
    generalize hq9 : (rd_T54 l0 0).f1 = q at *
    clear hq9
    obtain ⟨t, ht⟩ : ∃ t, 1 + t0 % 9 = t := ⟨_, rfl⟩
    have ht1 : 1 ≤ t ∧ t ≤ 9 := by omega
    have hwt : wrap64 (1 + t0 % 9) = t := by rw [ht, wrap_ok t (by omega) (by omega)]
    go_wp2
    obtain ⟨B6, eB6⟩ : ∃ n, W6.heap.size = n := ⟨_, rfl⟩
    have HB6 := Lib.hid eB6
    have HW6 := Lib.hid (show Below B6 W6 W6 by rw [← eB6]; exact Below.refl _ _)
    clear eB6 y0 y1 u1 hwt ht h3
    go_loopg [22, 23] l0.length (fun kq v22 v23 w' => ∃ (i : Nat) (A : Option Addr) (c : Nat), v23 = .int .i64 i ∧ v22 = .slice A i c ∧ Aside0 (i + kq = l0.length) ∧ Aside0 (Kd.R k54 54 w' B6 (fun _ => True) (.slice A i c) (mulP t (l0.take i))) ∧ Aside0 (Below B6 W6 w'))
    case atStart => exact ⟨0, none, 0, rfl, rfl, ⟨by omega⟩, ⟨by rw [List.take_zero]; exact Kd.R_nil _ _ _ _ _⟩, ⟨HW6.out⟩⟩
    case round =>
      clear HW6
      obtain ⟨i, A, c, rfl, rfl, HI, HX, HW⟩ := hrel
      cases gk with
      | succ k1 => as_aux_lemma =>
        have hi' : i < l0.length := by have := HI.out; omega
        have hlt : decide (i < l0.length) = true := by simp [hi']
        have hlt2 : decide ((i : Int) < (l0.length : Int)) = true := decide_eq_true (by omega)
        have hi3 : (i : Int) < (l0.length : Int) := by omega
        have hi100 : (i : Int) ≤ 100 := by omega
        obtain ⟨p0, hp0⟩ : ∃ p, (rd_T54 l0 (i : Int)).f0 = p := ⟨_, rfl⟩
        obtain ⟨p1, hp1⟩ : ∃ p, (rd_T54 l0 (i : Int)).f1 = p := ⟨_, rfl⟩
        have hp2 := HSG.out.p1 i hi'
        rw [hp1] at hp2
        have hmul : 0 ≤ t * p1 ∧ t * p1 ≤ 900000 := by
          have h8 : t * p1 ≤ 9 * p1 := Int.mul_le_mul_of_nonneg_right ht1.2 (by omega)
          exact ⟨Int.mul_nonneg (by omega) (by omega), by omega⟩
        have hwm : wrap64 (t * p1) = t * p1 := by rw [wrap_ok _ (by omega) (by omega)]
        have HCE := Lib.hid (show ∀ W, Below W6.heap.size W6 W → W.cell? (ad.add (i * 2)) = some (.int .i64 p0) ∧ W.cell? ⟨(ad.add (i * 2)).block, (ad.add (i * 2)).off + 1, none⟩ = some (.int .i64 p1) from fun W hW => by
          obtain ⟨ad', e9, h8, h9⟩ := at_T54 (HQ.out.below hW).C (i : Int) (by omega) (by omega)
          injection e9 with e9
          subst e9
          rw [Int.toNat_natCast, hp0] at h8
          rw [Int.toNat_natCast, hp1] at h9
          exact ⟨h8, h9⟩)
        have HMT := Lib.hid (show mulP t (l0.take (i + 1)) = mulP t (l0.take i) ++ [⟨p0, t * p1⟩] by
          rw [mulP_take t l0 i hi', ← rdP l0 i hi', hp0, hp1])
        have hml : (mulP t (l0.take i)).length = i := by rw [mulP_len, List.length_take]; omega
        clear hp0 hp1 hq0
        go_upto_region 15 with (fail)
        obtain ⟨Wd, ed⟩ : ∃ Wd, wr.drew = Wd := ⟨_, rfl⟩
        have hd : Below wr.heap.size wr Wd := by rw [← ed]; exact below_drew (Below.refl _ _)
        have HW7 := Lib.hid (show Below W6.heap.size W6 Wd by have := HW.out; rw [← HB6.out] at this; exact below_then this this.size hd)
        have HX7 := Lib.hid (Kd.R_below HX.out hd)
        clear hd HX HW
        refine start_ (n := 17) (S := fun w' => w'.cell? (ad.add (i * 2)) = some (.int .i64 p0) ∧ w'.cell? ⟨(ad.add (i * 2)).block, (ad.add (i * 2)).off + 1, none⟩ = some (.int .i64 p1)) (ds := []) #[false, false, false, false, false, false, false, false, false, false, false, false, false, false, false, false, false] (by kernel_rfl) rfl rfl (by rw [ed]; exact HCE.out _ HW7.out) (fun hHeld => ?_); refine with_tabW clocks8.tab15 clocks8.bits15 (fun HT_ HW_ => ?_)
        rw [ed] at hHeld ⊢
        refine pure_ (i := 0) (N := some 108) (v := ?_) (a' := ?_) #[true, false, false, false, false, false, false, false, false, false, false, false, false, false, false, false, false] rfl rfl (any_of HT_.out (by kernel_rfl)) (fun _ _ _ h => h) (Or.inl ⟨by rfl, ?_⟩) ?_ ?_
        rotate_left
        · intro w'
          go_simp
          with_reducible rfl
        rotate_left
        · simp only [Act.put, List.setIfInBounds_toArray, List.set_cons_zero, List.set_cons_succ, i64_w, i32_w]
          rfl
        refine pure_ (i := 1) (N := some 109) (v := ?_) (a' := ?_) #[true, true, false, false, false, false, false, false, false, false, false, false, false, false, false, false, false] rfl rfl (any_of HT_.out (by kernel_rfl)) (fun _ _ _ h => h) (Or.inl ⟨by rfl, ?_⟩) ?_ ?_
        rotate_left
        · intro w'
          go_simp
          with_reducible rfl
        rotate_left
        · simp only [Act.put, List.setIfInBounds_toArray, List.set_cons_zero, List.set_cons_succ, i64_w, i32_w]
          rfl
        refine pure_ (i := 2) (N := some 110) (v := ?_) (a' := ?_) #[true, true, true, false, false, false, false, false, false, false, false, false, false, false, false, false, false] rfl rfl (any_of HT_.out (by kernel_rfl)) (fun _ _ _ h => h) (Or.inl ⟨by rfl, ?_⟩) ?_ ?_
        rotate_left
        · intro w'
          go_simp
          with_reducible rfl
        rotate_left
        · simp only [Act.put, List.setIfInBounds_toArray, List.set_cons_zero, List.set_cons_succ, i64_w, i32_w]
          rfl
        refine pure_ (i := 3) (N := some 111) (v := ?_) (a' := ?_) #[true, true, true, true, false, false, false, false, false, false, false, false, false, false, false, false, false] rfl rfl (any_of HT_.out (by kernel_rfl)) (fun _ _ _ h => h) (Or.inl ⟨by rfl, ?_⟩) ?_ ?_
        rotate_left
        · intro w'
          go_simp
          with_reducible rfl
        rotate_left
        · simp only [Act.put, List.setIfInBounds_toArray, List.set_cons_zero, List.set_cons_succ, i64_w, i32_w]
          rfl
        refine pure_ (i := 4) (N := some 112) (v := ?_) (a' := ?_) #[true, true, true, true, true, false, false, false, false, false, false, false, false, false, false, false, false] rfl rfl (any_of HT_.out (by kernel_rfl)) (fun _ _ _ h => h) (Or.inl ⟨by rfl, ?_⟩) ?_ ?_
        rotate_left
        · intro w'
          go_simp
          with_reducible rfl
        rotate_left
        · simp only [Act.put, List.setIfInBounds_toArray, List.set_cons_zero, List.set_cons_succ, i64_w, i32_w]
          rfl
        refine take_ (i := 5) (N := some 113) (v := ?_) (a' := ?_) #[true, true, true, true, true, true, false, false, false, false, false, false, false, false, false, false, false] rfl rfl (take_ofW HT_.out HW_.out (by kernel_rfl)) (fun _ _ _ h => h) (Or.inl ⟨by rfl, ?_⟩) hHeld ?_ ?_
        rotate_left
        · rintro w' ⟨s0, s1⟩
          go_simp
          with_reducible rfl
        rotate_left
        · simp only [Act.put, List.setIfInBounds_toArray, List.set_cons_zero, List.set_cons_succ, i64_w, i32_w]
          rfl
        refine pure_ (i := 6) (N := some 114) (v := ?_) (a' := ?_) #[true, true, true, true, true, true, true, false, false, false, false, false, false, false, false, false, false] rfl rfl (any_of HT_.out (by kernel_rfl)) (fun _ _ _ h => h) (Or.inl ⟨by rfl, ?_⟩) ?_ ?_
        rotate_left
        · intro w'
          go_simp
          with_reducible rfl
        rotate_left
        · simp only [Act.put, List.setIfInBounds_toArray, List.set_cons_zero, List.set_cons_succ, i64_w, i32_w]
          rfl
        refine pure_ (i := 7) (N := some 115) (v := ?_) (a' := ?_) #[true, true, true, true, true, true, true, true, false, false, false, false, false, false, false, false, false] rfl rfl (any_of HT_.out (by kernel_rfl)) (fun _ _ _ h => h) (Or.inl ⟨by rfl, ?_⟩) ?_ ?_
        rotate_left
        · intro w'
          go_simp
          with_reducible rfl
        rotate_left
        · simp only [Act.put, List.setIfInBounds_toArray, List.set_cons_zero, List.set_cons_succ, i64_w, i32_w]
          rfl
        refine pure_ (i := 8) (N := some 116) (v := ?_) (a' := ?_) #[true, true, true, true, true, true, true, true, true, false, false, false, false, false, false, false, false] rfl rfl (any_of HT_.out (by kernel_rfl)) (fun _ _ _ h => h) (Or.inl ⟨by rfl, ?_⟩) ?_ ?_
        rotate_left
        · intro w'
          go_simp
          with_reducible rfl
        rotate_left
        · simp only [Act.put, List.setIfInBounds_toArray, List.set_cons_zero, List.set_cons_succ, i64_w, i32_w]
          rfl
        refine pure_ (i := 9) (N := some 117) (v := ?_) (a' := ?_) #[true, true, true, true, true, true, true, true, true, true, false, false, false, false, false, false, false] rfl rfl (any_of HT_.out (by kernel_rfl)) (fun _ _ _ h => h) (Or.inl ⟨by rfl, ?_⟩) ?_ ?_
        rotate_left
        · intro w'
          go_simp
          with_reducible rfl
        rotate_left
        · simp only [Act.put, List.setIfInBounds_toArray, List.set_cons_zero, List.set_cons_succ, i64_w, i32_w]
          rfl
        refine pure_ (i := 10) (N := some 118) (v := ?_) (a' := ?_) #[true, true, true, true, true, true, true, true, true, true, true, false, false, false, false, false, false] rfl rfl (any_of HT_.out (by kernel_rfl)) (fun _ _ _ h => h) (Or.inl ⟨by rfl, ?_⟩) ?_ ?_
        rotate_left
        · intro w'
          go_simp
          with_reducible rfl
        rotate_left
        · simp only [Act.put, List.setIfInBounds_toArray, List.set_cons_zero, List.set_cons_succ, i64_w, i32_w]
          rfl
        refine take_ (i := 11) (N := some 119) (v := ?_) (a' := ?_) #[true, true, true, true, true, true, true, true, true, true, true, true, false, false, false, false, false] rfl rfl (take_ofW HT_.out HW_.out (by kernel_rfl)) (fun _ _ _ h => h) (Or.inl ⟨by rfl, ?_⟩) hHeld ?_ ?_
        rotate_left
        · rintro w' ⟨s0, s1⟩
          go_simp
          with_reducible rfl
        rotate_left
        · simp only [Act.put, List.setIfInBounds_toArray, List.set_cons_zero, List.set_cons_succ, i64_w, i32_w]
          rfl
        refine pure_ (i := 12) (N := some 120) (v := ?_) (a' := ?_) #[true, true, true, true, true, true, true, true, true, true, true, true, true, false, false, false, false] rfl rfl (any_of HT_.out (by kernel_rfl)) (fun _ _ _ h => h) (Or.inl ⟨by rfl, ?_⟩) ?_ ?_
        rotate_left
        · intro w'
          go_simp
          with_reducible rfl
        rotate_left
        · simp only [Act.put, List.setIfInBounds_toArray, List.set_cons_zero, List.set_cons_succ, i64_w, i32_w]
          rfl
        refine one_ (i := 13) (N := some 121) #[true, true, true, true, true, true, true, true, true, true, true, true, true, true, false, false, false] rfl rfl (one_of HT_.out (by kernel_rfl)) (by decide) (fun K hK => ?_)
        refine goes_ Try.func38 (by kernel_rfl) rfl #[.int .i64 p0, .int .i64 (t * p1)] (by rfl) rfl rfl (by (try simp only [List.map_toArray, List.map_cons, List.map_nil]); first | done | rfl | (rw [hwm]; rfl)) ?_
        refine (forecourtlaw09_Price.calls p0 (t * p1) p0 (t * p1) Wd (y_pr _ _)).mono ?_
        rintro e W8 ⟨rfl, hb⟩
        refine ⟨_, rfl, ?_⟩
        have HW8 := Lib.hid (below_then HW7.out HW7.out.size hb)
        have HX8 := Lib.hid (Kd.R_below HX7.out hb)
        clear hb HX7
        refine hK.out _ _ (HCE.out _ HW8.out) (fun hHeld => ?_)
        clear hK K
        refine norm_ (a' := ?_) ?_ ?_
        rotate_left
        · show Act.put _ (some 121) _ = _
          simp only [Act.put, List.setIfInBounds_toArray, List.set_cons_zero, List.set_cons_succ, i64_w, i32_w]
          rfl
        obtain ⟨A', c', w', hap, hR', hgr⟩ := app22 HX8.out (by rw [hml]; omega) ⟨p0, t * p1⟩ (by rw [← HB6.out]; exact HW8.out.size)
        rw [hml] at hap hR'
        have HAP := Lib.hid hap
        have hAl := below_alloc (Below.refl W8.heap.size W8) (.cells #[.int .i64 p0, .int .i64 (t * p1)] 54)
        have HW9 := Lib.hid (below_then HW8.out HW8.out.size hAl)
        have HW10 := Lib.hid (show Below W6.heap.size W6 w' from below_grown HW9.out hgr (fun r hr => by have := Kd.R_base HX8.out r hr; rw [HB6.out]; exact this))
        have HX10 := Lib.hid hR'
        clear hap hR' hgr hAl
        refine one_ (i := 14) (N := some 122) #[true, true, true, true, true, true, true, true, true, true, true, true, true, true, true, false, false] rfl rfl (one_of HT_.out (by kernel_rfl)) (by decide) (fun K hK => ?_)
        refine event_step (by rfl) (w1 := W8.alloc (.cells #[.int .i64 p0, .int .i64 (t * p1)] 54)) (v := .slice (some ⟨W8.heap.size, 0, none⟩) 1 1) (by go_simp) ?_
        refine hK.out _ _ (HCE.out _ HW9.out) (fun hHeld => ?_)
        clear hK K
        refine norm_ (a' := ?_) ?_ ?_
        rotate_left
        · show Act.put _ (some 122) _ = _
          simp only [Act.put, List.setIfInBounds_toArray, List.set_cons_zero, List.set_cons_succ, i64_w, i32_w]
          rfl
        refine one_ (i := 15) (N := some 123) #[true, true, true, true, true, true, true, true, true, true, true, true, true, true, true, true, false] rfl rfl (one_of HT_.out (by kernel_rfl)) (by decide) (fun K hK => ?_)
        refine append_step (by rfl) (.tmp 108) (.tmp 122) 22 rfl _ _ _ w' rfl rfl HAP.out ?_
        refine hK.out _ _ (HCE.out _ HW10.out) (fun hHeld => ?_)
        clear hK K
        refine norm_ (a' := ?_) ?_ ?_
        rotate_left
        · show Act.put _ (some 123) _ = _
          simp only [Act.put, List.setIfInBounds_toArray, List.set_cons_zero, List.set_cons_succ, i64_w, i32_w]
          rfl
        refine pure_ (i := 16) (N := some 22) (v := ?_) (a' := ?_) #[true, true, true, true, true, true, true, true, true, true, true, true, true, true, true, true, true] rfl rfl (any_of HT_.out (by kernel_rfl)) (fun _ _ _ h => h) (Or.inl ⟨by rfl, ?_⟩) ?_ ?_
        rotate_left
        · intro w'
          go_simp
          with_reducible rfl
        rotate_left
        · simp only [Act.put, List.setIfInBounds_toArray, List.set_cons_zero, List.set_cons_succ, i64_w, i32_w]
          rfl
        refine done_ (done_of HT_.out (by kernel_rfl)) ?_
        clear hHeld HT_ HW_ ed
        go_wp2
        go_roundg k1
        case rel => exact ⟨i + 1, A', c', by go_num, rfl, ⟨by have := HI.out; omega⟩, ⟨by rw [HMT.out]; exact HX10.out⟩, ⟨by rw [← HB6.out]; exact HW10.out⟩⟩
        case measure => omega
      | zero =>
        have hi' : i = l0.length := by have := HI.out; omega
        subst hi'
        have hlt : decide (l0.length < l0.length) = false := by simp
        have hlt2 : decide ((l0.length : Int) < (l0.length : Int)) = false := decide_eq_false (by omega)
        have HQ := Lib.hid (HQ.out.below (by have := HW.out; rw [← HB6.out] at this; exact this))
        have HX := Lib.hid (show Kd.R k54 54 wr B6 (fun _ => True) (.slice A l0.length c) (mulP t l0) by have := HX.out; rwa [List.take_length] at this)
        clear HW HI hq0 HB6
        have HXC := Lib.hid (Kd.R_reads' HX.out)
        clear HX
        have hml : (mulP t l0).length = l0.length := mulP_len t l0
        obtain ⟨E, hE⟩ : ∃ E, signE (mulP t l0) = E := ⟨_, rfl⟩
        have HCS := Lib.hid (show forecourtref09_CheckSign.f 3000 (mulP t l0) = some E by rw [refCS _ 3000 (by omega), hE])
        have HFM := Lib.hid (show E = 0 → pole_Fair.f (mulP t l0) a b m = some (t * fa, 0) from fun h0 => by
          have h9 := hE.trans h0
          rw [pole_Fair_eq h9 HCL.out hm1.1 hm1.2, fairV_mul HSG.out (signE_sign h9) ht1.1 HCL.out (by omega) (by omega), HFA.out])
        clear hE
        have hta : wrap64 (t * fa) = t * fa := by
          have h8 : t * fa ≤ 9 * fa := Int.mul_le_mul_of_nonneg_right ht1.2 (by have := HFR.out; omega)
          have h9 : 0 ≤ t * fa := Int.mul_nonneg (by omega) (by have := HFR.out; omega)
          have := HFR.out
          rw [wrap_ok _ (by omega) (by omega)]
        obtain ⟨d, hd⟩ : ∃ d, z0 % 101 = d := ⟨_, rfl⟩
        have hd1 : 0 ≤ d ∧ d ≤ 100 := by omega
        have hda : wrap64 (a + d) = a + d := by rw [wrap_ok _ (by omega) (by omega)]
        have hdb : wrap64 (b + d) = b + d := by rw [wrap_ok _ (by omega) (by omega)]
        have hdm : wrap64 (m + d) = m + d := by rw [wrap_ok _ (by omega) (by omega)]
        have htl : ((mulP t l0).length : Int) = (l0.length : Int) := by rw [hml]
        have HCM := Lib.hid (show Kd.C k54 wr A (mulP t l0).length (mulP t l0) ∧ (mulP t l0).length ≤ c from by
          exact ⟨HXC.out.2.2, by rw [hml]; exact HXC.out.2.1⟩)
        have HK := forecourtref09_CheckSign.calls 3000 A c (mulP t l0) E wr HCM.out.1 HCM.out.2 HCS.out
        rw [hml] at HK
        have HK := Lib.hid HK
        clear HCS hml htl
        by_cases q5 : E = 0
        · as_aux_lemma =>
          subst q5
          have HFN := Lib.hid (HFM.out rfl); clear HFM
          have y0 : wr.cell? ⟨gy, 0, none⟩ = some (.int .i64 a) := (blk_cell HQ.out.y 0).trans rfl
          go_upto_region 17 with (go_at_call 21; refine (HK.out).mono ?_; rintro e W7 ⟨rfl, hb⟩; have HB := Lib.hid (drawn_below hb); clear hb)
          clear HK y0
          have HCM := Lib.hid (show Kd.C k54 W7 A (mulP t l0).length (mulP t l0) ∧ (mulP t l0).length ≤ c from ⟨Kd.C_below HCM.out.1 HB.out, HCM.out.2⟩)
          replace HQ := Lib.hid (HQ.out.below HB.out)
          clear HB
          have y0 : W7.cell? ⟨gy, 0, none⟩ = some (.int .i64 a) := (blk_cell HQ.out.y 0).trans rfl
          have y1 : W7.cell? ⟨gy, 1, none⟩ = some (.int .i64 b) := (blk_cell HQ.out.y 1).trans rfl
          have HK := pole_Fair.calls A c (mulP t l0) a b m (t * fa) 0 W7 HCM.out.1 HCM.out.2 HFN.out
          rw [mulP_len] at HK
          have HK := Lib.hid HK
          go_upto_region 18 with (go_at_call 18; refine (HK.out).mono ?_; rintro e W7b ⟨rfl, hb⟩; have HB := Lib.hid hb; clear hb)
          clear HK
          clear y0 y1
          replace HQ := Lib.hid (HQ.out.below HB.out)
          clear HB
          go_upto_region 20 with (fail)
          clear hta HFN HCM HXC
          have y0 : W7b.cell? ⟨gy, 0, none⟩ = some (.int .i64 a) := (blk_cell HQ.out.y 0).trans rfl
          have y1 : W7b.cell? ⟨gy, 1, none⟩ = some (.int .i64 b) := (blk_cell HQ.out.y 1).trans rfl
          go_upto_region 22 with (go_at_call 37; refine (forecourtlaw09_rg.calls (a + d) (b + d) _ _ _ (y_rg _ _)).mono ?_; rintro e W8 ⟨rfl, hb⟩; have HB := Lib.hid hb; clear hb)
          clear y0 y1
          replace HQ := Lib.hid (HQ.out.below HB.out)
          clear HB
          have HV := Lib.hid (blk_new W8 (.cells #[.int .i64 (a + d), .int .i64 (b + d)] 24))
          have HB := Lib.hid ((Below.refl W8.heap.size W8).alloc (Nat.le_refl _) (.cells #[.int .i64 (a + d), .int .i64 (b + d)] 24))
          replace HQ := Lib.hid (HQ.out.below HB.out)
          clear HB
          generalize W8.alloc (.cells #[.int .i64 (a + d), .int .i64 (b + d)] 24) = W9 at *
          generalize W8.heap.size = gk2 at *
          have HIC := Lib.hid (isClocks_eq (a + d) (b + d))
          clear hda hdb hd
          have y0 : W9.cell? ⟨gy, 0, none⟩ = some (.int .i64 a) := (blk_cell HQ.out.y 0).trans rfl
          have y1 : W9.cell? ⟨gy, 1, none⟩ = some (.int .i64 b) := (blk_cell HQ.out.y 1).trans rfl
          have k0 : W9.cell? ⟨gk2, 0, none⟩ = some (.int .i64 (a + d)) := (blk_cell HV.out 0).trans rfl
          have k1 : W9.cell? ⟨gk2, 1, none⟩ = some (.int .i64 (b + d)) := (blk_cell HV.out 1).trans rfl
          cases hG : clockB (a + d) (b + d) with
          | false => as_aux_lemma =>
            rw [hG] at HIC
            go_wp2_with (first
              | (go_at_call 39; refine (forecourtref09_IsClocks.calls (a + d) (b + d) false _ HIC.out).mono ?_; rintro e W10 ⟨rfl, hb⟩; have HB := Lib.hid hb; clear hb)
              | (go_at_call 15; refine (works_calls _).mono ?_; rintro e W11 ⟨rfl, hb⟩; have HB2 := Lib.hid hb; clear hb))
            go_ret
            exact ⟨rfl, by rw [← eg0] at *; have h9 := HQ.out.below HB.out; exact below_then h9.g h9.g.size HB2.out⟩
          | true =>
            have HCK := Lib.hid (clockB_iff.1 hG)
            rw [hG] at HIC
            clear hG
            by_cases q7 : m + d > 2000
            · as_aux_lemma =>
              have t7 : decide (2000 < m + d) = true := decide_eq_true q7
              clear q7
              go_wp2_with (first
                | (go_at_call 39; refine (forecourtref09_IsClocks.calls (a + d) (b + d) true _ HIC.out).mono ?_; rintro e W10 ⟨rfl, hb⟩; have HB := Lib.hid hb; clear hb)
                | (go_at_call 15; refine (works_calls _).mono ?_; rintro e W11 ⟨rfl, hb⟩; have HB2 := Lib.hid hb; clear hb))
              go_ret
              exact ⟨rfl, by rw [← eg0] at *; have h9 := HQ.out.below HB.out; exact below_then h9.g h9.g.size HB2.out⟩
            · as_aux_lemma =>
              have t7 : decide (2000 < m + d) = false := decide_eq_false q7
              have hmd : 0 ≤ m + d ∧ m + d ≤ 2000 := by omega
              obtain ⟨fs, hfs⟩ : ∃ fs, fairV l0 a b (m + d) = fs := ⟨_, rfl⟩
              have HF4 := Lib.hid (show pole_Fair.f l0 (a + d) (b + d) m = some (fs, 0) by
                rw [pole_Fair_eq HS.out HCK.out hm1.1 hm1.2, fairV_shift l0 HCL.out (by omega) (by omega) hd1.1 (by omega), hfs])
              have HF5 := Lib.hid (show pole_Fair.f l0 a b (m + d) = some (fs, 0) by rw [pole_Fair_eq HS.out HCL.out hmd.1 hmd.2, hfs])
              clear hfs q7 hmd
              go_upto_region 24 with (go_at_call 39; refine (forecourtref09_IsClocks.calls (a + d) (b + d) true _ HIC.out).mono ?_; rintro e W10 ⟨rfl, hb⟩; have HB := Lib.hid hb; clear hb)
              clear t7
              clear y0 y1 k0 k1
              replace HQ := Lib.hid (HQ.out.below HB.out)
              replace HV := Lib.hid (blk_below HV.out HB.out)
              clear HB
              have y0 : W10.cell? ⟨gy, 0, none⟩ = some (.int .i64 a) := (blk_cell HQ.out.y 0).trans rfl
              have y1 : W10.cell? ⟨gy, 1, none⟩ = some (.int .i64 b) := (blk_cell HQ.out.y 1).trans rfl
              have k0 : W10.cell? ⟨gk2, 0, none⟩ = some (.int .i64 (a + d)) := (blk_cell HV.out 0).trans rfl
              have k1 : W10.cell? ⟨gk2, 1, none⟩ = some (.int .i64 (b + d)) := (blk_cell HV.out 1).trans rfl
              go_upto_region 25 with (go_at_call 18; refine (pole_Fair.calls (some ad) c0 l0 (a + d) (b + d) m fs 0 _ HQ.out.C HQ.out.hc HF4.out).mono ?_; rintro e W11 ⟨rfl, hb⟩; have HB := Lib.hid hb; clear hb)
              clear y0 y1 k0 k1
              replace HQ := Lib.hid (HQ.out.below HB.out)
              clear HB
              have y0 : W11.cell? ⟨gy, 0, none⟩ = some (.int .i64 a) := (blk_cell HQ.out.y 0).trans rfl
              have y1 : W11.cell? ⟨gy, 1, none⟩ = some (.int .i64 b) := (blk_cell HQ.out.y 1).trans rfl
              go_upto_region 26 with (go_at_call 18; refine (pole_Fair.calls (some ad) c0 l0 a b (m + d) fs 0 _ HQ.out.C HQ.out.hc HF5.out).mono ?_; rintro e W12 ⟨rfl, hb⟩; have HB := Lib.hid hb; clear hb)
              clear y0 y1
              replace HQ := Lib.hid (HQ.out.below HB.out)
              clear HB
              go_wp2_with (go_at_call 15; refine (works_calls _).mono ?_; rintro e W13 ⟨rfl, hb⟩; have HB := Lib.hid hb; clear hb)
              go_ret
              exact ⟨rfl, by rw [← eg0] at *; exact below_then HQ.out.g HQ.out.g.size HB.out⟩
        · as_aux_lemma =>
          have t5 : (E == 0) = false := beq_eq_false_iff_ne.mpr q5
          clear HFM q5 hta
          go_upto_region 20 with (go_at_call 21; refine (HK.out).mono ?_; rintro e W7 ⟨rfl, hb⟩; have HB := Lib.hid (drawn_below hb); clear hb)
          clear HK t5 HCM HXC
          replace HQ := Lib.hid (HQ.out.below HB.out)
          clear HB
          have y0 : W7.cell? ⟨gy, 0, none⟩ = some (.int .i64 a) := (blk_cell HQ.out.y 0).trans rfl
          have y1 : W7.cell? ⟨gy, 1, none⟩ = some (.int .i64 b) := (blk_cell HQ.out.y 1).trans rfl
          go_upto_region 22 with (go_at_call 37; refine (forecourtlaw09_rg.calls (a + d) (b + d) _ _ _ (y_rg _ _)).mono ?_; rintro e W8 ⟨rfl, hb⟩; have HB := Lib.hid hb; clear hb)
          clear y0 y1
          replace HQ := Lib.hid (HQ.out.below HB.out)
          clear HB
          have HV := Lib.hid (blk_new W8 (.cells #[.int .i64 (a + d), .int .i64 (b + d)] 24))
          have HB := Lib.hid ((Below.refl W8.heap.size W8).alloc (Nat.le_refl _) (.cells #[.int .i64 (a + d), .int .i64 (b + d)] 24))
          replace HQ := Lib.hid (HQ.out.below HB.out)
          clear HB
          generalize W8.alloc (.cells #[.int .i64 (a + d), .int .i64 (b + d)] 24) = W9 at *
          generalize W8.heap.size = gk2 at *
          have HIC := Lib.hid (isClocks_eq (a + d) (b + d))
          clear hda hdb hd
          have y0 : W9.cell? ⟨gy, 0, none⟩ = some (.int .i64 a) := (blk_cell HQ.out.y 0).trans rfl
          have y1 : W9.cell? ⟨gy, 1, none⟩ = some (.int .i64 b) := (blk_cell HQ.out.y 1).trans rfl
          have k0 : W9.cell? ⟨gk2, 0, none⟩ = some (.int .i64 (a + d)) := (blk_cell HV.out 0).trans rfl
          have k1 : W9.cell? ⟨gk2, 1, none⟩ = some (.int .i64 (b + d)) := (blk_cell HV.out 1).trans rfl
          cases hG : clockB (a + d) (b + d) with
          | false => as_aux_lemma =>
            rw [hG] at HIC
            go_wp2_with (first
              | (go_at_call 39; refine (forecourtref09_IsClocks.calls (a + d) (b + d) false _ HIC.out).mono ?_; rintro e W10 ⟨rfl, hb⟩; have HB := Lib.hid hb; clear hb)
              | (go_at_call 15; refine (works_calls _).mono ?_; rintro e W11 ⟨rfl, hb⟩; have HB2 := Lib.hid hb; clear hb))
            go_ret
            exact ⟨rfl, by rw [← eg0] at *; have h9 := HQ.out.below HB.out; exact below_then h9.g h9.g.size HB2.out⟩
          | true =>
            have HCK := Lib.hid (clockB_iff.1 hG)
            rw [hG] at HIC
            clear hG
            by_cases q7 : m + d > 2000
            · as_aux_lemma =>
              have t7 : decide (2000 < m + d) = true := decide_eq_true q7
              clear q7
              go_wp2_with (first
                | (go_at_call 39; refine (forecourtref09_IsClocks.calls (a + d) (b + d) true _ HIC.out).mono ?_; rintro e W10 ⟨rfl, hb⟩; have HB := Lib.hid hb; clear hb)
                | (go_at_call 15; refine (works_calls _).mono ?_; rintro e W11 ⟨rfl, hb⟩; have HB2 := Lib.hid hb; clear hb))
              go_ret
              exact ⟨rfl, by rw [← eg0] at *; have h9 := HQ.out.below HB.out; exact below_then h9.g h9.g.size HB2.out⟩
            · as_aux_lemma =>
              have t7 : decide (2000 < m + d) = false := decide_eq_false q7
              have hmd : 0 ≤ m + d ∧ m + d ≤ 2000 := by omega
              obtain ⟨fs, hfs⟩ : ∃ fs, fairV l0 a b (m + d) = fs := ⟨_, rfl⟩
              have HF4 := Lib.hid (show pole_Fair.f l0 (a + d) (b + d) m = some (fs, 0) by
                rw [pole_Fair_eq HS.out HCK.out hm1.1 hm1.2, fairV_shift l0 HCL.out (by omega) (by omega) hd1.1 (by omega), hfs])
              have HF5 := Lib.hid (show pole_Fair.f l0 a b (m + d) = some (fs, 0) by rw [pole_Fair_eq HS.out HCL.out hmd.1 hmd.2, hfs])
              clear hfs q7 hmd
              go_upto_region 24 with (go_at_call 39; refine (forecourtref09_IsClocks.calls (a + d) (b + d) true _ HIC.out).mono ?_; rintro e W10 ⟨rfl, hb⟩; have HB := Lib.hid hb; clear hb)
              clear t7
              clear y0 y1 k0 k1
              replace HQ := Lib.hid (HQ.out.below HB.out)
              replace HV := Lib.hid (blk_below HV.out HB.out)
              clear HB
              have y0 : W10.cell? ⟨gy, 0, none⟩ = some (.int .i64 a) := (blk_cell HQ.out.y 0).trans rfl
              have y1 : W10.cell? ⟨gy, 1, none⟩ = some (.int .i64 b) := (blk_cell HQ.out.y 1).trans rfl
              have k0 : W10.cell? ⟨gk2, 0, none⟩ = some (.int .i64 (a + d)) := (blk_cell HV.out 0).trans rfl
              have k1 : W10.cell? ⟨gk2, 1, none⟩ = some (.int .i64 (b + d)) := (blk_cell HV.out 1).trans rfl
              go_upto_region 25 with (go_at_call 18; refine (pole_Fair.calls (some ad) c0 l0 (a + d) (b + d) m fs 0 _ HQ.out.C HQ.out.hc HF4.out).mono ?_; rintro e W11 ⟨rfl, hb⟩; have HB := Lib.hid hb; clear hb)
              clear y0 y1 k0 k1
              replace HQ := Lib.hid (HQ.out.below HB.out)
              clear HB
              have y0 : W11.cell? ⟨gy, 0, none⟩ = some (.int .i64 a) := (blk_cell HQ.out.y 0).trans rfl
              have y1 : W11.cell? ⟨gy, 1, none⟩ = some (.int .i64 b) := (blk_cell HQ.out.y 1).trans rfl
              go_upto_region 26 with (go_at_call 18; refine (pole_Fair.calls (some ad) c0 l0 a b (m + d) fs 0 _ HQ.out.C HQ.out.hc HF5.out).mono ?_; rintro e W12 ⟨rfl, hb⟩; have HB := Lib.hid hb; clear hb)
              clear y0 y1
              replace HQ := Lib.hid (HQ.out.below HB.out)
              clear HB
              go_wp2_with (go_at_call 15; refine (works_calls _).mono ?_; rintro e W13 ⟨rfl, hb⟩; have HB := Lib.hid hb; clear hb)
              go_ret
              exact ⟨rfl, by rw [← eg0] at *; exact below_then HQ.out.g HQ.out.g.size HB.out⟩
end Go.Proofs.Ytcgdbjojjpoegaa.P

namespace Go.Proofs.Ytcgdbjojjpoegaa.P
open Go.RowKit Go.ChangeShapes Go.WideShapes Go.Deep Go.Joins Go.Proofs.YtcgdbjojjpoegaaW.PrintWords Go.Proofs.YtcgdbjojjpoegaaW.PrintLast Go.Proofs.YtcgdbjojjpoegaaW.PrintMore Go.Proofs.YtcgdbjojjpoegaaK
set_option maxRecDepth 100000
/-- An array of two numbers that was passed. -/
theorem arg_arr8 {H : Type} {enc : TypeId × Value → H} {w : World} {r : Reach} {b0 : Nat} {spare : Nat → Bool} {v : Value} {dd : DataW H} {p : List MemPlace} (hv : Value.okWide Try.prog w r b0 56 v) (h : DataW.Trod enc Try.prog w 0 spare true 56 v dd p) :
    ∃ (a b : Int), v = .agg #[.int .u8 a, .int .u8 b] ∧ (0 ≤ a ∧ a ≤ 255) ∧ (0 ≤ b ∧ b ≤ 255) := by
  have hu : Try.prog.underlying 56 = some (.array 2 5) := by kernel_rfl
  have hc : Try.prog.cellsOf 5 = 1 := by kernel_rfl
  simp only [Value.okWide, hu] at hv
  obtain ⟨cs, rfl, hsz, _⟩ := hv
  obtain ⟨c0, c1, rfl⟩ := array2 (hsz.trans (by kernel_rfl))
  obtain ⟨fuel, hf⟩ := h
  obtain ⟨xs, m, _, hx, _, hl, he⟩ := DataW.trod_array hu hf
  obtain ⟨y0, y1, rfl⟩ : ∃ y0 y1, xs = [y0, y1] := by
    rcases xs with _ | ⟨y0, _ | ⟨y1, _ | ⟨y2, xs⟩⟩⟩
    · simp at hl
    · simp at hl
    · exact ⟨y0, y1, rfl⟩
    · simp at hl
  have h0 := he 0 (by omega)
  have h1 := he 1 (by omega)
  rw [hc] at h0 h1
  obtain ⟨a, e0, _, wa⟩ := DataW.trod_int Try.underlying5 (show DataW.trod enc Try.prog w 0 spare true m 5 [c0] = some y0 from h0)
  obtain ⟨b, e1, _, wb⟩ := DataW.trod_int Try.underlying5 (show DataW.trod enc Try.prog w 0 spare true m 5 [c1] = some y1 from h1)
  simp only [List.cons.injEq, and_true] at e0 e1
  subst e0 e1
  exact ⟨a, b, rfl, rng_u8 wa, rng_u8 wb⟩
end Go.Proofs.Ytcgdbjojjpoegaa.P

