import Derived.Test.YtfhmepdbbhcncaaX
import Derived.Test.YtfhmepdbbhcncaaPx9
namespace Go.Proofs.Ytfhmepdbbhcncaa.P
open Go.RowKit Go.Proofs.YtfhmepdbbhcncaaW.PrintWords Go.Proofs.YtfhmepdbbhcncaaW.PrintLast Go.Proofs.YtfhmepdbbhcncaaW.PrintMore
set_option linter.unusedVariables false
set_option linter.unusedSimpArgs false

theorem rdT (l : List S58) (i : Nat) (h : i < l.length) : rd_T58 l (i : Int) = l[i] := by simp [rd_T58, List.getD, h]
theorem rdI (l : List Int) (i : Nat) (h : i < l.length) : rd l (i : Int) = l[i] := by simp [rd, List.getD, h]
theorem wrap_ok (x : Int) (h0 : -9223372036854775808 ≤ x) (h1 : x ≤ 9223372036854775807) : wrap64 x = x := by
  unfold wrap64
  omega
theorem wrap_next (i : Nat) (h : i ≤ 1000000000) : wrap64 ((i : Int) + 1) = ((i + 1 : Nat) : Int) := by
  rw [wrap_ok] <;> omega
/-- What is wrong with a move. -/
def BadM (n : Int) (m : S58) : Prop := m.f0 < 0 ∨ n ≤ m.f0 ∨ m.f1 < 0 ∨ n ≤ m.f1 ∨ m.f0 = m.f1 ∨ m.f2.f0 < 0 ∨ m.f2.f1 < m.f2.f0 ∨ 100000 < m.f2.f1
theorem badMove_iff (n : Int) (m : S58) : badMove n m = true ↔ BadM n m := by
  unfold badMove withinB BadM
  simp only [List.all_cons, List.all_nil, Bool.and_true, Bool.or_eq_true, Bool.not_eq_true', Bool.and_eq_false_iff, decide_eq_false_iff_not, decide_eq_true_eq]
  omega
theorem is_eq (n : Int) (l : List S58) (v : Int) : forecourtref05_Is.f n l v = some (isV n v) := by
  unfold forecourtref05_Is.f isV
  by_cases h : 0 ≤ v <;> simp [h]
theorem refCY_l0 (n : Int) (l : List S58) (hl : l.length ≤ 1000) : ∀ (k i : Nat), l.length < k + i → i ≤ l.length → forecourtref05_CheckYard.l0 k (i : Int) n l = some (if (l.drop i).any (badMove n) then 3 else 0)
  | 0, i, h, hi => by omega
  | k + 1, i, h, hi => by
    unfold forecourtref05_CheckYard.l0
    by_cases hlt : i < l.length
    · have e : l.drop i = l[i] :: l.drop (i + 1) := List.drop_eq_getElem_cons hlt
      rw [if_pos (by omega), if_pos (by omega), wrap_next i (by omega), refCY_l0 n l hl k (i + 1) (by omega) (by omega), rdT l i hlt, e, List.any_cons]
      generalize l[i] = m
      generalize (l.drop (i + 1)).any (badMove n) = rest
      rw [is_eq, is_eq]
      simp only [Option.bind_some]
      by_cases hb : BadM n m
      · rw [(badMove_iff n m).2 hb, Bool.true_or, if_pos rfl]
        unfold BadM at hb
        unfold isV
        repeat' split
        all_goals (first | rfl | (exfalso; simp only [Bool.and_eq_true, decide_eq_true_eq] at *; omega))
      · have hb' : badMove n m = false := by
          cases h : badMove n m with
          | false => rfl
          | true => exact absurd ((badMove_iff n m).1 h) hb
        rw [hb', Bool.false_or]
        unfold BadM at hb
        rw [if_pos (by unfold isV; simp only [Bool.and_eq_true, decide_eq_true_eq]; omega), if_pos (by unfold isV; simp only [Bool.and_eq_true, decide_eq_true_eq]; omega), if_neg (by omega), if_neg (by omega), if_neg (by omega), if_neg (by omega)]
    · have : i = l.length := by omega
      rw [if_neg (by omega), this, List.drop_length]
      rfl
theorem refCY (n : Int) (l : List S58) (hl : l.length ≤ 1000) (k : Nat) (hk : 1002 ≤ k) : forecourtref05_CheckYard.f k n l = some (checkYard n l) := by
  obtain ⟨k, rfl⟩ : ∃ j, k = j + 1 := ⟨k - 1, by omega⟩
  unfold forecourtref05_CheckYard.f checkYard
  have h0 := refCY_l0 n l hl k 0 (by omega) (by omega)
  rw [List.drop_zero] at h0
  rw [forecourtref05_CheckYard.j0, forecourtref05_CheckYard.j0]
  by_cases h1 : n < 1
  · rw [if_pos h1, if_pos rfl, if_pos (Or.inl h1)]
  · by_cases h2 : 20 < n
    · rw [if_neg h1, if_pos (decide_eq_true h2), if_pos (Or.inr h2)]
    · rw [if_neg h1, if_neg (by simp only [decide_eq_true_eq]; omega), if_neg (show ¬ (n < 1 ∨ 20 < n) by omega)]
      by_cases h3 : 40 < l.length
      · rw [if_pos (by omega), if_pos h3]
      · rw [if_neg (by omega), if_neg h3]
        exact h0
theorem checkYard_rng (n : Int) (l : List S58) : checkYard n l = 0 ∨ checkYard n l = 2 ∨ checkYard n l = 3 ∨ checkYard n l = 6 := by
  unfold checkYard
  repeat' split
  all_goals omega
theorem refIsStart (n : Int) (l : List S58) (sv st : Int) (hl : l.length ≤ 1000) (k : Nat) (hk : 1002 ≤ k) : forecourtref05_IsStart.f k n l sv st = some (openE n l sv st []) := by
  unfold forecourtref05_IsStart.f openE
  rw [refCY n l hl k hk, is_eq]
  simp only [Option.bind_some, List.any_nil]
  generalize checkYard n l = c
  by_cases h0 : c = 0
  · subst h0
    cases hv : isV n sv with
    | false => simp
    | true =>
      unfold withinB
      by_cases h1 : st < 0
      · have : ¬ (0 ≤ st) := by omega
        simp [h1, this]
      · by_cases h2 : st > 100000
        · have : ¬ (st ≤ 100000) := by omega
          simp [h1, h2, this]
        · have h3 : st ≤ 100000 := by omega
          have h4 : 0 ≤ st := by omega
          have h5 : ¬ (100000 < st) := by omega
          simp [h1, h3, h4, h5]
  · simp [h0]
theorem refIsVessel (n : Int) (l : List S58) (sv st v : Int) (hl : l.length ≤ 1000) (k : Nat) (hk : 1002 ≤ k) : forecourtref05_isVessel.f k n l sv st v = some (openE n l sv st [v]) := by
  unfold forecourtref05_isVessel.f
  rw [refIsStart n l sv st hl k hk, is_eq]
  simp only [Option.bind_some]
  unfold openE
  by_cases h0 : checkYard n l = 0
  · by_cases h1 : isV n sv = false ∨ withinB 0 100000 [st] = false
    · simp [h0, h1]
    · cases hv : isV n v <;> simp [h0, h1, hv]
  · simp [h0]
theorem open_parts {n : Int} {l : List S58} {sv st : Int} {vs : List Int} (h : openE n l sv st vs = 0) : YardOK n l ∧ (0 ≤ sv ∧ sv < n) ∧ (0 ≤ st ∧ st ≤ 100000) ∧ ∀ v ∈ vs, 0 ≤ v ∧ v < n := by
  unfold openE at h
  split at h
  · contradiction
  · rename_i h0
    split at h
    · cases h
    · rename_i h1
      split at h
      · cases h
      · rename_i h2
        unfold isV withinB at h1
        simp only [List.all_cons, List.all_nil, Bool.and_true, Bool.and_eq_false_iff, decide_eq_false_iff_not, not_or, Classical.not_not] at h1
        refine ⟨yardOK (Classical.not_not.1 h0), by omega, by omega, fun v hv => ?_⟩
        have : isV n v = true := by
          cases hi : isV n v with
          | true => rfl
          | false => exact absurd (List.any_eq_true.2 ⟨v, hv, by simp [hi]⟩) h2
        unfold isV at this
        simp only [Bool.and_eq_true, decide_eq_true_eq] at this
        exact this
end Go.Proofs.Ytfhmepdbbhcncaa.P
