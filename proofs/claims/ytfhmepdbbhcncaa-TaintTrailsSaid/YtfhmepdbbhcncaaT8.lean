import Derived.Test.YtfhmepdbbhcncaaT2
import Derived.Test.YtfhmepdbbhcncaaT5
import Derived.Test.YtfhmepdbbhcncaaT7
import Derived.Test.YtfhmepdbbhcncaaPf31
import Derived.Test.YtfhmepdbbhcncaaPf33
namespace Go.Proofs.Ytfhmepdbbhcncaa.P
open Go.RowKit Go.Proofs.YtfhmepdbbhcncaaW.PrintWords Go.Proofs.YtfhmepdbbhcncaaW.PrintLast Go.Proofs.YtfhmepdbbhcncaaW.PrintMore
set_option linter.unusedVariables false
set_option linter.unusedSimpArgs false

/-- The error of Trail, and of Passed. -/
def trailE (n : Int) (l : List S58) (sv st v : Int) : Int := if openE n l sv st [v] ≠ 0 then openE n l sv st [v] else if gc (runC soonF (fun _ => true) n l sv st).1 v = 1048576 then 5 else 0
theorem refTrailError (n : Int) (l : List S58) (sv st v : Int) (hl : l.length ≤ 1000) (k : Nat) (hk : 3000 ≤ k) : forecourtref05_TrailError.f k n l sv st v = some (trailE n l sv st v) := by
  unfold forecourtref05_TrailError.f trailE
  rw [refIsVessel n l sv st v hl k (by omega)]
  simp only [Option.bind_some]
  by_cases h0 : openE n l sv st [v] = 0
  · obtain ⟨hy, hs, ht, hv⟩ := open_parts h0
    have hv' := hv v (by simp)
    have h2 := hy.n2
    rw [if_pos h0, if_neg (show ¬ openE n l sv st [v] ≠ 0 by omega), refArr false (-1) n l sv st hy ht hs (fun _ => true) (may_all hy) k (by omega)]
    simp only [Option.bind_some, Bool.false_eq_true, if_false]
    rw [if_pos hv'.1, if_pos (by rw [List.length_take, comeLen soonF _ hy (StepOK.soon hy) ht hs]; omega), rd_gc, gc_take _ n v hv'.1 hv'.2]
    by_cases h1 : gc (runC soonF (fun _ => true) n l sv st).1 v = 1048576
    · rw [if_pos h1, if_pos h1]
    · rw [if_neg h1, if_neg h1]
  · rw [if_neg h0, if_pos h0]
theorem passR_succ (n : Int) (l : List S58) (sv st v : Int) (i : Nat) : passR n l sv st v (i + 1) = passR n l sv st v i ++ if (decide ((i : Int) = sv) || cutV n l sv st v (i : Int)) = true then [(i : Int)] else [] := by
  unfold passR
  rw [List.range_succ, List.map_append, List.filter_append, List.map_cons, List.map_nil, List.filter_cons, List.filter_nil]
theorem passR_len (n : Int) (l : List S58) (sv st v : Int) (i : Nat) : (passR n l sv st v i).length ≤ i := by
  unfold passR
  have := List.length_filter_le (fun u => decide (u = sv) || cutV n l sv st v u) ((List.range i).map fun (i : Nat) => (i : Int))
  simpa using this
theorem refPassed_l0 (n : Int) (l : List S58) (sv st v : Int) (hy : YardOK n l) (hst : 0 ≤ st ∧ st ≤ 100000) (hsv : 0 ≤ sv ∧ sv < n) (hv : 0 ≤ v ∧ v < n) : ∀ (d i k : Nat), n = ((i + d : Nat) : Int) → 1700 + d < k →
    forecourtref05_Passed.l0 k v (passR n l sv st v i) (i : Int) n l sv st = some (passR n l sv st v n.toNat, 0)
  | 0, i, k, hi, hk => by
    obtain ⟨j, rfl⟩ : ∃ j, k = j + 1 := ⟨k - 1, by omega⟩
    rw [forecourtref05_Passed.l0, if_neg (by omega), show n.toNat = i by omega]
  | d + 1, i, k, hi, hk => by
    obtain ⟨j, rfl⟩ : ∃ j, k = j + 1 := ⟨k - 1, by omega⟩
    have ih := refPassed_l0 n l sv st v hy hst hsv hv d (i + 1) j (by omega) (by omega)
    have h2 := hy.n2
    have hl := passR_len n l sv st v i
    rw [passR_succ] at ih
    rw [forecourtref05_Passed.l0, if_pos (by omega), wrap_next i (by omega)]
    by_cases e : (i : Int) = sv
    · rw [if_pos e, if_pos (by omega)]
      rw [if_pos (by simp [e])] at ih
      exact ih
    · rw [if_neg e, refArr false (i : Int) n l sv st hy hst hsv (notToF (i : Int)) (fun m hm => by unfold notToF; rw [Bool.eq_iff_iff]; simp) j (by omega)]
      simp only [Option.bind_some, Bool.false_eq_true, if_false]
      rw [if_pos hv.1, if_pos (by rw [List.length_take, comeLen soonF _ hy (StepOK.soon hy) hst hsv]; omega), rd_gc, gc_take _ n v hv.1 hv.2]
      by_cases h1 : gc (runC soonF (notToF (i : Int)) n l sv st).1 v = 1048576
      · have hc : cutV n l sv st v (i : Int) = true := decide_eq_true h1
        rw [if_pos h1, if_pos (by omega)]
        rw [if_pos (by simp [hc])] at ih
        exact ih
      · have hc : cutV n l sv st v (i : Int) = false := decide_eq_false h1
        rw [if_neg h1]
        rw [if_neg (by simp [hc, e]), List.append_nil] at ih
        exact ih
theorem refPassed (n : Int) (l : List S58) (sv st v : Int) (hl : l.length ≤ 1000) (k : Nat) (hk : 3000 ≤ k) : forecourtref05_Passed.f k n l sv st v = some (if trailE n l sv st v = 0 then passR n l sv st v n.toNat else [], trailE n l sv st v) := by
  unfold forecourtref05_Passed.f
  rw [refTrailError n l sv st v hl k hk]
  simp only [Option.bind_some]
  by_cases h0 : trailE n l sv st v = 0
  · rw [if_pos h0, if_pos h0, h0]
    have h1 : openE n l sv st [v] = 0 := by
      unfold trailE at h0
      split at h0
      · contradiction
      · rename_i h; exact Classical.not_not.1 h
    obtain ⟨hy, hs, ht, hv⟩ := open_parts h1
    exact refPassed_l0 n l sv st v hy ht hs (hv v (by simp)) n.toNat 0 k (by have := hy.n1; omega) (by have := hy.n2; omega)
  · rw [if_neg h0, if_neg h0]
/-- What Passed and Trail return. -/
theorem trail_works (n : Int) (l : List S58) (sv st v : Int) : ∃ t, trailF n l sv st v = some (t, trailE n l sv st v) ∧ passedF n l sv st v = some (if trailE n l sv st v = 0 then passR n l sv st v n.toNat else [], trailE n l sv st v) ∧
    (trailE n l sv st v ≠ 0 → t = []) ∧ (trailE n l sv st v = 0 → (t.length : Int) < n ∧ checkTrailF n l sv st v t false = 0) := by
  unfold trailF passedF trailE
  by_cases h0 : openE n l sv st [v] = 0
  · obtain ⟨hy, hs, ht, hv⟩ := open_parts h0
    have hv' := hv v (by simp)
    have h2 := hy.n2
    rw [if_neg (show ¬ openE n l sv st [v] ≠ 0 by omega), if_neg (show ¬ openE n l sv st [v] ≠ 0 by omega), if_neg (show ¬ openE n l sv st [v] ≠ 0 by omega)]
    have eg : ∀ x, (runC soonF (fun _ => true) n l sv st).1.getD v.toNat 0 = x ↔ gc (runC soonF (fun _ => true) n l sv st).1 v = x := fun x => Iff.rfl
    by_cases h1 : gc (runC soonF (fun _ => true) n l sv st).1 v = 1048576
    · rw [if_pos ((eg _).2 h1), if_pos ((eg _).2 h1), if_pos h1]
      exact ⟨[], rfl, rfl, fun _ => rfl, fun h => absurd h (by decide)⟩
    · rw [if_neg (fun h => h1 ((eg _).1 h)), if_neg (fun h => h1 ((eg _).1 h)), if_neg h1]
      obtain ⟨rk, hF, w, hw, hW, hl⟩ := way_found hy ht hs hv' h1
      rw [hw]
      refine ⟨w.reverse, rfl, ?_, fun h => absurd rfl h, fun _ => ⟨by rw [List.length_reverse]; omega, ?_⟩⟩
      · simp only [if_true]
        rw [mergeSort_passR hy ht hs hv' hF h1 hW]
      · have hix := WayB.ix w v hW
        unfold checkTrailF
        rw [if_neg (show ¬ openE n l sv st [v] ≠ 0 by omega), if_neg (by rw [List.length_reverse]; omega), if_neg, walkT_E]
        · simp only [Bool.false_eq_true, if_false]
          rw [WayB.walk hF.own w v hW]
          simp
        · rw [List.any_eq_true]
          rintro ⟨i, hi, hb⟩
          have := hix i (List.mem_reverse.1 hi)
          unfold badIx at hb
          simp only [Bool.or_eq_true, decide_eq_true_eq] at hb
          omega
  · rw [if_pos h0, if_pos h0, if_pos h0]
    exact ⟨[], rfl, by rw [if_neg h0], fun _ => rfl, fun h => absurd h h0⟩
end Go.Proofs.Ytfhmepdbbhcncaa.P
