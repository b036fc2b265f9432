import Derived.Test.YtfhmepdbbhcncaaT15
import Derived.Test.YtfhmepdbbhcncaaL
namespace Go.Proofs.Ytfhmepdbbhcncaa.Pure
open Go.RowKit Go.Proofs.Ytfhmepdbbhcncaa.P Go.Proofs.YtfhmepdbbhcncaaW.PrintWords Go.Proofs.YtfhmepdbbhcncaaW.PrintLast
set_option linter.unusedVariables false
theorem TaintSure (a0 : Int) (l0 : List S58) (a1 b1 : Int) (l2 l3 : List Int) (a4 : Int) (w0 : I64 a0) (m0 : ∀ m ∈ l0, MovW m) (w1 : I64 a1) (u1 : I64 b1) (m2 : ∀ x ∈ l2, (Lit.int .u32 x).wf = true) (m3 : ∀ x ∈ l3, I64 x) (w4 : (Lit.int .u8 a4).wf = true) : ∃ k, forecourtlaw05_TaintSure.f k a0 l0 a1 b1 l2 l3 a4 = some true := by
  refine ⟨2002, ?_⟩
  have hw : forecourtlaw05_TaintSure.j0 2002 l2 l3 a4 true a0 l0 a1 b1 = some true := by
    rw [forecourtlaw05_TaintSure.j0, if_pos rfl]
    rfl
  have hr4 : (0 : Int) ≤ a4 ∧ a4 ≤ 255 := by simpa [Lit.wf, IntKind.min, IntKind.max, IntKind.signed, IntKind.bits] using w4
  have hr2 : ∀ x ∈ l2, (0 : Int) ≤ x ∧ x ≤ 4294967295 := fun x hx => by
    have := m2 x hx
    simpa [Lit.wf, IntKind.min, IntKind.max, IntKind.signed, IntKind.bits] using this
  unfold forecourtlaw05_TaintSure.f
  rw [fine_eq a0 l0 a1 b1 2002 (by omega), Option.bind_some]
  by_cases h : (decide ((l0.length : Int) ≤ 50) && decide (openE a0 l0 a1 b1 [] = 0)) = true
  · rw [if_pos h]
    by_cases h2 : (l2.length : Int) > 60
    · rw [if_pos h2]
      exact hw
    · rw [if_neg h2]
      by_cases h3 : (l3.length : Int) > 60
      · rw [decide_eq_true h3]
        exact hw
      · have ho : openE a0 l0 a1 b1 [] = 0 := by
          rw [Bool.and_eq_true] at h
          exact of_decide_eq_true h.2
        obtain ⟨hy, hs, ht, _⟩ := open_parts ho
        have h1 := hy.n1
        have hU := sureR ho
        have hlen := hU.len
        rw [decide_eq_false h3, forecourtlaw05_TaintSure.j0, if_neg (by simp), taint_Sure.f, Option.bind_some, ho]
        simp only [if_true]
        rw [rising_true (sureL a0 l0 a1 b1) a0 (by omega) (fun x hx => ((hU.mem x).1 hx).1) (by omega) hU.inc 2001 (by omega), Option.bind_some, forecourtlaw05_TaintSure.j1, if_neg (by simp), if_neg (by omega), wrap_ok a4 (by omega) (by omega), Int.tmod_eq_emod_of_nonneg hr4.1]
        have hv0 : 0 ≤ a4 % a0 := Int.emod_nonneg _ (by omega)
        have hv1 : a4 % a0 < a0 := Int.emod_lt_of_pos _ (by omega)
        generalize a4 % a0 = v at hv0 hv1
        have hown : hasB (sureL a0 l0 a1 b1) a1 = true := (hasB_iff _ _).2 ((hU.mem a1).2 ⟨hs, by
          obtain ⟨rk, U⟩ := run_found (fun _ => true) hy (StepOK.sure hy) ht hs
          rw [U.own]
          omega⟩)
        refine sure_l0 l2 l3 (sureL a0 l0 a1 b1) (by omega) v 1900 (fun k hk => ?_) (sureL a0 l0 a1 b1).length 0 2000 (by omega) (by omega)
        rw [hown]
        exact sure_end ho l2 l3 hr2 v ⟨hv0, hv1⟩ _ k hk _ ((hasB_iff _ _).trans ((hU.mem v).trans ⟨fun h => h.2, fun h => ⟨⟨hv0, hv1⟩, h⟩⟩))
  · rw [if_neg h]
    exact hw
end Go.Proofs.Ytfhmepdbbhcncaa.Pure
