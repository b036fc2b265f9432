import Derived.Test.YtfhmepdbbhcncaaT6
import Derived.Test.YtfhmepdbbhcncaaL
import Derived.Test.YtfhmepdbbhcncaaPf4
namespace Go.Proofs.Ytfhmepdbbhcncaa.Pure
open Go.RowKit Go.Proofs.Ytfhmepdbbhcncaa.P Go.Proofs.YtfhmepdbbhcncaaW.PrintWords Go.Proofs.YtfhmepdbbhcncaaW.PrintLast
set_option linter.unusedVariables false
theorem TaintArrivals (a0 : Int) (l0 : List S58) (a1 b1 : Int) (w0 : I64 a0) (m0 : ∀ m ∈ l0, MovW m) (w1 : I64 a1) (u1 : I64 b1) : ∃ k, forecourtlaw05_TaintArrivals.f k a0 l0 a1 b1 = some true := by
  refine ⟨3000, ?_⟩
  unfold forecourtlaw05_TaintArrivals.f forecourtlaw05_great.f
  simp only [Option.bind_some]
  by_cases h1 : (l0.length : Int) > 50
  · rw [if_pos (decide_eq_true h1)]
    rfl
  · have ha := arrL_len a0 l0 a1 b1
    have hc := carL_len a0 l0 a1 b1
    have hs := sureL_len a0 l0 a1 b1
    rw [if_neg (by simp only [decide_eq_true_eq]; exact h1), taint_Arrivals.f, refArrivals a0 l0 a1 b1 (by omega) 3000 (by omega), taint_Carried.f, refCarried a0 l0 a1 b1 (by omega) 3000 (by omega), taint_Sure.f, refSure a0 l0 a1 b1 (by omega) 3000 (by omega)]
    simp only [Option.bind_some]
    rw [longs_eq _ _ (by omega) 3000 (by omega), ints_eq _ _ (by omega) 3000 (by omega), ints_eq _ _ (by omega) 3000 (by omega)]
    simp only [Option.bind_some, decide_true, if_true]
    rfl
end Go.Proofs.Ytfhmepdbbhcncaa.Pure
