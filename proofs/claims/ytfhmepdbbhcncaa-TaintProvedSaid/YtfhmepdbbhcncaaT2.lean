import Derived.Test.YtfhmepdbbhcncaaT1
import Derived.Test.YtfhmepdbbhcncaaPf19
namespace Go.Proofs.Ytfhmepdbbhcncaa.P
open Go.RowKit Go.Proofs.YtfhmepdbbhcncaaW.PrintWords Go.Proofs.YtfhmepdbbhcncaaW.PrintLast Go.Proofs.YtfhmepdbbhcncaaW.PrintMore
set_option linter.unusedVariables false
set_option linter.unusedSimpArgs false

theorem refCT_l1 (l : List S58) (v : Int) (tr : List Int) (sure : Bool) (n : Int) (hl : tr.length ≤ 1000) (hix : ∀ i ∈ tr, 0 ≤ i ∧ i < (l.length : Int)) : ∀ (k i : Nat) (a t : Int), 2 * tr.length < k + 2 * i → i ≤ tr.length →
    forecourtref05_CheckTrail.l1 k v tr sure a t (i : Int) n l = some (walkT (if sure then sureF else soonF) l v (tr.drop i) a t)
  | 0, i, a, t, h, hi => by omega
  | 1, i, a, t, h, hi => by
    have : i = tr.length := by omega
    subst this
    rw [forecourtref05_CheckTrail.l1, if_neg (by omega), List.drop_length, walkT]
    split <;> rfl
  | k + 2, i, a, t, h, hi => by
    rw [forecourtref05_CheckTrail.l1]
    by_cases hlt : i < tr.length
    · have e : tr.drop i = tr[i] :: tr.drop (i + 1) := List.drop_eq_getElem_cons hlt
      obtain ⟨g0, g1⟩ := hix tr[i] (List.getElem_mem hlt)
      rw [if_pos (by omega), if_pos (by omega), rdI tr i hlt, if_pos g0, if_pos g1, e, walkT]
      generalize rd_T58 l tr[i] = m
      by_cases h1 : m.f0 = a
      · rw [if_pos h1]
        cases sure with
        | true =>
          simp only [if_true]
          by_cases h2 : t > m.f2.f0
          · have : (sureF t m).2 = false := by unfold sureF; exact decide_eq_false (by omega)
            rw [if_pos h2, forecourtref05_CheckTrail.j2, if_pos rfl, if_pos (Or.inr this)]
          · have : (sureF t m).2 = true := by unfold sureF; exact decide_eq_true (by omega)
            rw [if_neg h2, forecourtref05_CheckTrail.j2, if_neg (by simp), if_pos rfl, wrap_next i (by omega), refCT_l1 l v tr true n hl hix k (i + 1) _ _ (by omega) (by omega), if_neg (show ¬ (m.f0 ≠ a ∨ (sureF t m).2 = false) by rw [this]; simp [h1])]
            rfl
        | false =>
          simp only [Bool.false_eq_true, if_false]
          by_cases h2 : t > m.f2.f1
          · have : (soonF t m).2 = false := by unfold soonF; exact decide_eq_false (by omega)
            rw [decide_eq_true h2, forecourtref05_CheckTrail.j2, if_pos rfl, if_pos (Or.inr this)]
          · have : (soonF t m).2 = true := by unfold soonF; exact decide_eq_true (by omega)
            have h3 : mx t m.f2.f0 = (soonF t m).1 := by unfold mx soonF; show _ = max _ _; split <;> omega
            rw [decide_eq_false h2, forecourtref05_CheckTrail.j2, if_neg (by simp), if_neg (by simp), wrap_next i (by omega), refCT_l1 l v tr false n hl hix k (i + 1) _ _ (by omega) (by omega), if_neg (show ¬ (m.f0 ≠ a ∨ (soonF t m).2 = false) by rw [this]; simp [h1]), h3]
            rfl
      · rw [if_neg h1, forecourtref05_CheckTrail.j2, if_pos rfl, if_pos (Or.inl h1)]
    · have : i = tr.length := by omega
      subst this
      rw [if_neg (by omega), List.drop_length, walkT]
      split <;> rfl
theorem refCT_l0 (l : List S58) (v : Int) (tr : List Int) (sure : Bool) (n sv st : Int) (hl : tr.length ≤ 1000) : ∀ (k i : Nat), 3 * tr.length + 3 < k + i → i ≤ tr.length → (∀ j (hj : j < tr.length), j < i → badIx l.length tr[j] = false) →
    forecourtref05_CheckTrail.l0 k v tr sure (i : Int) n l sv st = some (if (tr.drop i).any (badIx l.length) then 2 else walkT (if sure then sureF else soonF) l v tr sv st)
  | 0, i, h, hi, hb => by omega
  | k + 1, i, h, hi, hb => by
    rw [forecourtref05_CheckTrail.l0]
    by_cases hlt : i < tr.length
    · have e : tr.drop i = tr[i] :: tr.drop (i + 1) := List.drop_eq_getElem_cons hlt
      rw [if_pos (by omega), if_pos (by omega), rdI tr i hlt, e, List.any_cons]
      by_cases h1 : tr[i] < 0
      · have : badIx l.length tr[i] = true := by unfold badIx; simp [h1]
        rw [if_pos h1, this, Bool.true_or, if_pos rfl]
      · by_cases h2 : tr[i] ≥ (l.length : Int)
        · have : badIx l.length tr[i] = true := by
            unfold badIx
            have : (l.length : Int) ≤ tr[i] := h2
            simp [this]
          rw [if_neg h1, if_pos h2, this, Bool.true_or, if_pos rfl]
        · have hbi : badIx l.length tr[i] = false := by
            unfold badIx
            simp only [Bool.or_eq_false_iff, decide_eq_false_iff_not]
            omega
          rw [if_neg h1, if_neg h2, wrap_next i (by omega), hbi, Bool.false_or]
          refine refCT_l0 l v tr sure n sv st hl k (i + 1) (by omega) (by omega) (fun j hj hji => ?_)
          by_cases hje : j = i
          · subst hje; exact hbi
          · exact hb j hj (by omega)
    · have : i = tr.length := by omega
      subst this
      rw [if_neg (by omega), List.drop_length]
      have h0 := refCT_l1 l v tr sure n hl (fun x hx => by
        obtain ⟨j, hj, rfl⟩ := List.getElem_of_mem hx
        have := hb j hj hj
        unfold badIx at this
        simp only [Bool.or_eq_false_iff, decide_eq_false_iff_not] at this
        omega) k 0 sv st (by omega) (by omega)
      rw [List.drop_zero] at h0
      simpa using h0
theorem refCT (n : Int) (l : List S58) (sv st v : Int) (tr : List Int) (sure : Bool) (hl : l.length ≤ 1000) (k : Nat) (hk : 1002 ≤ k) : forecourtref05_CheckTrail.f k n l sv st v tr sure = some (checkTrailF n l sv st v tr sure) := by
  unfold forecourtref05_CheckTrail.f checkTrailF
  rw [refIsVessel n l sv st v hl k hk]
  simp only [Option.bind_some]
  by_cases h0 : openE n l sv st [v] = 0
  · rw [if_pos h0, if_neg (show ¬ openE n l sv st [v] ≠ 0 by omega)]
    by_cases h1 : 40 < tr.length
    · rw [if_pos (show (tr.length : Int) > 40 by omega), if_pos h1]
    · rw [if_neg (show ¬ (tr.length : Int) > 40 by omega), if_neg h1]
      have := refCT_l0 l v tr sure n sv st (by omega) k 0 (by omega) (by omega) (fun j _ h => by omega)
      rw [List.drop_zero] at this
      exact this
  · rw [if_neg h0, if_pos h0]
end Go.Proofs.Ytfhmepdbbhcncaa.P
