import Derived.Test.YtfhmepdbbhcncaaT1
import Derived.Test.YtfhmepdbbhcncaaPf21
namespace Go.Proofs.Ytfhmepdbbhcncaa.P
open Go.RowKit Go.Proofs.YtfhmepdbbhcncaaW.PrintWords Go.Proofs.YtfhmepdbbhcncaaW.PrintLast Go.Proofs.YtfhmepdbbhcncaaW.PrintMore
set_option linter.unusedVariables false
set_option linter.unusedSimpArgs false

theorem badT_iff (t : Int) : badT t = true ↔ t < 0 ∨ (100000 < t ∧ t ≠ 1048576) := by
  unfold badT withinB
  simp only [List.all_cons, List.all_nil, Bool.and_true, Bool.and_eq_true, Bool.not_eq_true', Bool.and_eq_false_iff, decide_eq_false_iff_not, decide_eq_true_eq]
  omega
theorem lateM_iff (gv : List Int) (m : S58) : lateM gv m = true ↔ gv.getD m.f0.toNat 0 ≤ m.f2.f1 ∧ max (gv.getD m.f0.toNat 0) m.f2.f0 < gv.getD m.f1.toNat 0 := by
  unfold lateM soonF
  simp only [Bool.and_eq_true, decide_eq_true_eq]
theorem refCA_l1 (gv : List Int) (l : List S58) (n : Int) (hl : l.length ≤ 1000) (hm : ∀ m ∈ l, 0 ≤ m.f0 ∧ m.f0 < gv.length ∧ 0 ≤ m.f1 ∧ m.f1 < gv.length) : ∀ (k i : Nat), l.length < k + i → i ≤ l.length →
    forecourtref05_CheckArrivals.l1 k gv (i : Int) n l = some (if (l.drop i).any (lateM gv) then 14 else 0)
  | 0, i, h, hi => by omega
  | k + 1, i, h, hi => by
    rw [forecourtref05_CheckArrivals.l1]
    by_cases hlt : i < l.length
    · have e : l.drop i = l[i] :: l.drop (i + 1) := List.drop_eq_getElem_cons hlt
      obtain ⟨g0, g1, g2, g3⟩ := hm l[i] (List.getElem_mem hlt)
      rw [if_pos (by omega), if_pos (by omega), rdT l i hlt, if_pos g0, if_pos g1, if_pos g2, if_pos g3, wrap_next i (by omega), refCA_l1 gv l n hl hm k (i + 1) (by omega) (by omega), e, List.any_cons]
      generalize l[i] = m
      generalize (l.drop (i + 1)).any (lateM gv) = rest
      have hL := lateM_iff gv m
      unfold rd
      by_cases h1 : m.f2.f1 ≥ gv.getD m.f0.toNat 0
      · by_cases h2 : gv.getD m.f1.toNat 0 > mx (gv.getD m.f0.toNat 0) m.f2.f0
        · have : lateM gv m = true := hL.2 ⟨h1, by unfold mx at h2; omega⟩
          rw [if_pos h1, if_pos h2, this, Bool.true_or, if_pos rfl]
        · have : lateM gv m = false := by
            cases h : lateM gv m with
            | false => rfl
            | true => exact absurd (hL.1 h).2 (by unfold mx at h2; omega)
          rw [if_pos h1, if_neg h2, this, Bool.false_or]
      · have : lateM gv m = false := by
          cases h : lateM gv m with
          | false => rfl
          | true => exact absurd (hL.1 h).1 (by omega)
        rw [if_neg h1, this, Bool.false_or]
    · have : i = l.length := by omega
      rw [if_neg (by omega), this, List.drop_length]
      rfl
theorem refCA_l0 (gv : List Int) (l : List S58) (n sv st : Int) (hl : l.length ≤ 1000) (hg : gv.length ≤ 1000) (hs : 0 ≤ sv ∧ sv < gv.length) (hm : ∀ m ∈ l, 0 ≤ m.f0 ∧ m.f0 < gv.length ∧ 0 ≤ m.f1 ∧ m.f1 < gv.length) : ∀ (k i : Nat), gv.length + l.length + 1 < k + i → i ≤ gv.length →
    forecourtref05_CheckArrivals.l0 k gv (i : Int) n l sv st = some (if (gv.drop i).any badT then 3 else if st < gv.getD sv.toNat 0 ∨ l.any (lateM gv) then 14 else 0)
  | 0, i, h, hi => by omega
  | k + 1, i, h, hi => by
    rw [forecourtref05_CheckArrivals.l0]
    by_cases hlt : i < gv.length
    · have e : gv.drop i = gv[i] :: gv.drop (i + 1) := List.drop_eq_getElem_cons hlt
      rw [if_pos (by omega), if_pos (by omega), rdI gv i hlt, wrap_next i (by omega), refCA_l0 gv l n sv st hl hg hs hm k (i + 1) (by omega) (by omega), e, List.any_cons]
      generalize gv[i] = t
      generalize (gv.drop (i + 1)).any badT = rest
      have hB := badT_iff t
      by_cases hb : badT t = true
      · have := hB.1 hb
        rw [hb, Bool.true_or, if_pos rfl]
        by_cases h1 : t < 0
        · rw [if_pos h1]
        · rw [if_neg h1, if_pos (by omega), if_neg (by omega)]
      · have hb' : badT t = false := by cases h : badT t <;> simp_all
        have : ¬ (t < 0 ∨ (100000 < t ∧ t ≠ 1048576)) := fun h => hb (hB.2 h)
        rw [hb', Bool.false_or, if_neg (by omega)]
        by_cases h1 : t > 100000
        · rw [if_pos h1, if_pos (by omega)]
        · rw [if_neg h1]
    · have : i = gv.length := by omega
      rw [if_neg (by omega), this, List.drop_length, if_pos hs.1, if_pos hs.2, List.any_nil]
      have h0 := refCA_l1 gv l n hl hm k 0 (by omega) (by omega)
      rw [List.drop_zero] at h0
      unfold rd
      by_cases h1 : gv.getD sv.toNat 0 > st
      · rw [if_pos h1, if_neg (by simp), if_pos (Or.inl h1)]
      · rw [if_neg h1, if_neg (by simp)]
        rw [show ((0 : Nat) : Int) = 0 from rfl] at h0
        rw [h0]
        have : (st < gv.getD sv.toNat 0 ∨ l.any (lateM gv) = true) ↔ l.any (lateM gv) = true := ⟨fun h => h.resolve_left (by omega), Or.inr⟩
        simp only [this]
theorem refCA (n : Int) (l : List S58) (sv st : Int) (gv : List Int) (hl : l.length ≤ 1000) (hg : gv.length ≤ 1000) (k : Nat) (hk : 2010 ≤ k) : forecourtref05_CheckArrivals.f k n l sv st gv = some (checkArrF n l sv st gv) := by
  unfold forecourtref05_CheckArrivals.f checkArrF
  rw [refIsStart n l sv st hl k (by omega)]
  simp only [Option.bind_some]
  by_cases h0 : openE n l sv st [] = 0
  · rw [if_pos h0, if_neg (show ¬ openE n l sv st [] ≠ 0 by omega)]
    by_cases h1 : (gv.length : Int) = n
    · rw [if_pos h1, if_neg (show ¬ (gv.length : Int) ≠ n by omega)]
      obtain ⟨hy, hs, _, _⟩ := open_parts h0
      have := refCA_l0 gv l n sv st hl hg (by omega) (fun m hm => by have := hy.mv m hm; omega) k 0 (by omega) (by omega)
      rw [List.drop_zero] at this
      exact this
    · rw [if_neg h1, if_pos h1]
  · rw [if_neg h0, if_pos h0]
end Go.Proofs.Ytfhmepdbbhcncaa.P
