import Derived.Test.YtfhmepdbbhcncaaT2
import Derived.Test.YtfhmepdbbhcncaaPx12
import Derived.Test.YtfhmepdbbhcncaaL
namespace Go.Proofs.Ytfhmepdbbhcncaa.Pure
set_option linter.unusedVariables false
open Go.RowKit Go.Proofs.Ytfhmepdbbhcncaa.P Go.Proofs.YtfhmepdbbhcncaaW.PrintWords Go.Proofs.YtfhmepdbbhcncaaW.PrintLast
theorem TaintYards (a0 : Int) (l0 : List S58) (a1 b1 a2 : Int) (l3 : List Int) (a4 : Bool) (l5 : List Int) (w0 : I64 a0) (m0 : ∀ m ∈ l0, MovW m) (w1 : I64 a1) (u1 : I64 b1) (w2 : I64 a2) (m3 : ∀ x ∈ l3, I64 x) (m5 : ∀ x ∈ l5, I64 x) :
    ∃ k, forecourtlaw05_TaintYards.f k a0 l0 a1 b1 a2 l3 a4 l5 = some true := by
  refine ⟨3000, ?_⟩
  have hw : ∀ k, forecourtlaw05_TaintYards.j0 (k + 1) a2 l3 a4 l5 true a0 l0 a1 b1 = some true := fun k => by
    rw [forecourtlaw05_TaintYards.j0, if_pos rfl]
    rfl
  unfold forecourtlaw05_TaintYards.f forecourtlaw05_great.f
  simp only [Option.bind_some]
  by_cases h1 : (l0.length : Int) > 50
  · rw [if_pos (decide_eq_true h1)]
    exact hw 2999
  · rw [if_neg (by simp only [decide_eq_true_eq]; exact h1)]
    by_cases h2 : (l3.length : Int) > 60
    · rw [if_pos h2]
      exact hw 2999
    · rw [if_neg h2]
      by_cases h3 : (l5.length : Int) > 40
      · rw [decide_eq_true h3]
        exact hw 2999
      · rw [decide_eq_false h3, forecourtlaw05_TaintYards.j0, if_neg (by simp), taint_CheckYard.f, refCY a0 l0 (by omega) 2999 (by omega), taint_CheckTrail.f, refCT a0 l0 a1 b1 a2 l3 a4 (by omega) 2999 (by omega), taint_CheckArrivals.f, refCA a0 l0 a1 b1 l5 (by omega) (by omega) 2999 (by omega)]
        simp only [Option.bind_some, if_true]
        rfl
end Go.Proofs.Ytfhmepdbbhcncaa.Pure
