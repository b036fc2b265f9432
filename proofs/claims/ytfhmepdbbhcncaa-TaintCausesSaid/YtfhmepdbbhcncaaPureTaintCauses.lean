import Derived.Test.YtfhmepdbbhcncaaT10
import Derived.Test.YtfhmepdbbhcncaaPf6
import Derived.Test.YtfhmepdbbhcncaaL
namespace Go.Proofs.Ytfhmepdbbhcncaa.Pure
open Go.RowKit Go.Proofs.Ytfhmepdbbhcncaa.P Go.Proofs.YtfhmepdbbhcncaaW.PrintWords Go.Proofs.YtfhmepdbbhcncaaW.PrintLast
set_option linter.unusedVariables false
theorem TaintCauses (a0 : Int) (l0 : List S58) (l1 : List Int) (w0 : I64 a0) (m0 : ∀ m ∈ l0, MovW m) (m1 : ∀ x ∈ l1, I64 x) : ∃ k, forecourtlaw05_TaintCauses.f k a0 l0 l1 = some true := by
  refine ⟨4001, ?_⟩
  unfold forecourtlaw05_TaintCauses.f forecourtlaw05_great.f
  simp only [Option.bind_some]
  by_cases h1 : (l0.length : Int) > 50
  · rw [if_pos (decide_eq_true h1), forecourtlaw05_TaintCauses.j0, if_pos rfl]
    rfl
  · rw [if_neg (by simp only [decide_eq_true_eq]; exact h1), forecourtlaw05_TaintCauses.j0]
    by_cases h2 : (l1.length : Int) > 60
    · rw [if_pos (decide_eq_true h2)]
      rfl
    · obtain ⟨r, hr, hf, hlen⟩ := causes_eq a0 l0 l1 (by omega) 4000 (by omega)
      rw [if_neg (by simp only [decide_eq_true_eq]; exact h2), taint_Causes.f, hr, hf]
      simp only [Option.bind_some]
      rw [starts_self r.1 (by omega) 4000 (by omega)]
      simp only [Option.bind_some, if_true]
      rfl
end Go.Proofs.Ytfhmepdbbhcncaa.Pure
