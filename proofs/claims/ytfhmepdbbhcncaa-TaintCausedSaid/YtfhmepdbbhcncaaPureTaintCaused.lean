import Derived.Test.YtfhmepdbbhcncaaT12
import Derived.Test.YtfhmepdbbhcncaaL
namespace Go.Proofs.Ytfhmepdbbhcncaa.Pure
open Go.RowKit Go.Proofs.Ytfhmepdbbhcncaa.P Go.Proofs.YtfhmepdbbhcncaaW.PrintWords Go.Proofs.YtfhmepdbbhcncaaW.PrintLast
set_option linter.unusedVariables false
theorem TaintCaused (a0 : Int) (l0 : List S58) (a1 a2 a3 : Int) (w0 : I64 a0) (m0 : ∀ m ∈ l0, MovW m) (w1 : (Lit.int .u64 a1).wf = true) (w2 : (Lit.int .u8 a2).wf = true) (w3 : (Lit.int .u32 a3).wf = true) : ∃ k, forecourtlaw05_TaintCaused.f k a0 l0 a1 a2 a3 = some true := by
  refine ⟨2001, ?_⟩
  unfold forecourtlaw05_TaintCaused.f forecourtlaw05_great.f
  simp only [Option.bind_some]
  have hr2 : 0 ≤ a2 ∧ a2 ≤ 255 := by
    have h : (0 : Int) ≤ a2 ∧ a2 ≤ 255 := by simpa [Lit.wf, IntKind.min, IntKind.max, IntKind.signed, IntKind.bits] using w2
    exact h
  have hr3 : 0 ≤ a3 ∧ a3 ≤ 4294967295 := by
    have h : (0 : Int) ≤ a3 ∧ a3 ≤ 4294967295 := by simpa [Lit.wf, IntKind.min, IntKind.max, IntKind.signed, IntKind.bits] using w3
    exact h
  by_cases h1 : (l0.length : Int) > 50
  · rw [if_pos (decide_eq_true h1), forecourtlaw05_TaintCaused.j0, if_pos rfl]
    rfl
  · rw [if_neg (by simp only [decide_eq_true_eq]; exact h1), refCY a0 l0 (by omega) 2001 (by omega), Option.bind_some, forecourtlaw05_TaintCaused.j0]
    by_cases hc : checkYard a0 l0 = 0
    · rw [if_neg (by simp [hc])]
      exact caused_l0 (by omega) a1 a2 a3 1500 (fun sp k hsp hk => caused_end hc a1 a2 a3 hr2 hr3 sp hsp k hk) l0.length 0 2000 [] (by omega) (by omega) ⟨fun x hx => (by cases hx), List.Pairwise.nil, Nat.zero_le _⟩
    · rw [if_pos (by simp [hc])]
      rfl
end Go.Proofs.Ytfhmepdbbhcncaa.Pure
