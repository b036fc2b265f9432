import Derived.Test.YtfhmepdbbhcncaaT8
import Derived.Test.YtfhmepdbbhcncaaPf5
import Derived.Test.YtfhmepdbbhcncaaL
namespace Go.Proofs.Ytfhmepdbbhcncaa.Pure
open Go.RowKit Go.Proofs.Ytfhmepdbbhcncaa.P Go.Proofs.YtfhmepdbbhcncaaW.PrintWords Go.Proofs.YtfhmepdbbhcncaaW.PrintLast
set_option linter.unusedVariables false
theorem TaintTrails (a0 : Int) (l0 : List S58) (a1 b1 a2 : Int) (w0 : I64 a0) (m0 : ∀ m ∈ l0, MovW m) (w1 : I64 a1) (u1 : I64 b1) (w2 : I64 a2) : ∃ k, forecourtlaw05_TaintTrails.f k a0 l0 a1 b1 a2 = some true := by
  refine ⟨3001, ?_⟩
  unfold forecourtlaw05_TaintTrails.f forecourtlaw05_great.f
  simp only [Option.bind_some]
  by_cases h1 : (l0.length : Int) > 50
  · rw [if_pos (decide_eq_true h1)]
    rfl
  · obtain ⟨t, ht, hp, hn, ho⟩ := trail_works a0 l0 a1 b1 a2
    have hpl : (if trailE a0 l0 a1 b1 a2 = 0 then passR a0 l0 a1 b1 a2 a0.toNat else []).length ≤ 1000 := by
      split
      · rename_i h0
        have := ho h0
        have := passR_len a0 l0 a1 b1 a2 a0.toNat
        unfold trailE at h0
        split at h0
        · contradiction
        · rename_i h
          obtain ⟨hy, _⟩ := open_parts (Classical.not_not.1 h)
          have := hy.n2
          omega
      · simp
    rw [if_neg (by simp only [decide_eq_true_eq]; exact h1), taint_Passed.f, hp, refPassed a0 l0 a1 b1 a2 (by omega) 3001 (by omega), taint_Trail.f, ht]
    simp only [Option.bind_some]
    rw [ints_eq _ _ hpl 3001 (by omega), refTrailError a0 l0 a1 b1 a2 (by omega) 3001 (by omega)]
    simp only [Option.bind_some, decide_true, if_true]
    rw [forecourtlaw05_TaintTrails.j0, if_neg (by simp)]
    by_cases h0 : trailE a0 l0 a1 b1 a2 = 0
    · obtain ⟨hlt, hck⟩ := ho h0
      rw [if_pos h0, if_pos hlt, refCT a0 l0 a1 b1 a2 t false (by omega) 3000 (by omega), hck]
      rfl
    · rw [if_neg h0, hn h0]
      rfl
end Go.Proofs.Ytfhmepdbbhcncaa.Pure
