import Derived.Test.YtfhmepdbbhcncaaT16
import Derived.Test.YtfhmepdbbhcncaaPf41
namespace Go.Proofs.Ytfhmepdbbhcncaa.P
open Go.RowKit Go.Proofs.YtfhmepdbbhcncaaW.PrintWords Go.Proofs.YtfhmepdbbhcncaaW.PrintLast Go.Proofs.YtfhmepdbbhcncaaW.PrintMore
set_option linter.unusedVariables false
set_option linter.unusedSimpArgs false
theorem without_l0 (n : Int) (l : List S58) (o : Int) (hl : l.length ≤ 1000) : ∀ (d i k : Nat), l.length = i + d → d < k → forecourtlaw05_without.l0 k o (i : Int) n l n ((l.take i).filter (notToF o)) = some (n, l.filter (notToF o))
  | 0, i, k, hi, hk => by
    obtain ⟨j, rfl⟩ : ∃ j, k = j + 1 := ⟨k - 1, by omega⟩
    rw [forecourtlaw05_without.l0, if_neg (by omega), List.take_of_length_le (by omega)]
  | d + 1, i, k, hi, hk => by
    obtain ⟨j, rfl⟩ : ∃ j, k = j + 1 := ⟨k - 1, by omega⟩
    have hlt : i < l.length := by omega
    have ih := without_l0 n l o hl d (i + 1) j (by omega) (by omega)
    rw [List.take_succ_eq_append_getElem hlt, List.filter_append, List.filter_cons, List.filter_nil] at ih
    have hlen : ((l.take i).filter (notToF o)).length ≤ 1000 := Nat.le_trans (List.length_filter_le _ _) (by rw [List.length_take]; omega)
    rw [forecourtlaw05_without.l0, if_pos (by omega), if_pos (by omega), rdT l i hlt, wrap_next i (by omega)]
    by_cases e : l[i].f1 = o
    · have : notToF o l[i] = false := by unfold notToF; simp [e]
      rw [if_pos e]
      rw [this, if_neg (by simp), List.append_nil] at ih
      exact ih
    · have : notToF o l[i] = true := by unfold notToF; simp [e]
      rw [if_neg e, if_pos (by omega)]
      rw [this, if_pos rfl] at ih
      exact ih
theorem without_eq (n : Int) (l : List S58) (o : Int) (hl : l.length ≤ 1000) : forecourtlaw05_without.f 1002 n l o = some (n, l.filter (notToF o)) := by
  have := without_l0 n l o hl l.length 0 1002 (by omega) (by omega)
  exact this
end Go.Proofs.Ytfhmepdbbhcncaa.P
