import Derived.Test.YtfhmepdbbhcncaaT1
import Derived.Test.YtfhmepdbbhcncaaT7
namespace Go.Proofs.Ytfhmepdbbhcncaa.P
open Go.RowKit Go.Proofs.YtfhmepdbbhcncaaW.PrintWords Go.Proofs.YtfhmepdbbhcncaaW.PrintLast Go.Proofs.YtfhmepdbbhcncaaW.PrintMore
set_option linter.unusedVariables false
set_option linter.unusedSimpArgs false

/-- The error of Trail, and of Passed. -/
def trailE (n : Int) (l : List S58) (sv st v : Int) : Int := if openE n l sv st [v] ≠ 0 then openE n l sv st [v] else if gc (runC soonF (fun _ => true) n l sv st).1 v = 1048576 then 5 else 0
theorem passR_succ (n : Int) (l : List S58) (sv st v : Int) (i : Nat) : passR n l sv st v (i + 1) = passR n l sv st v i ++ if (decide ((i : Int) = sv) || cutV n l sv st v (i : Int)) = true then [(i : Int)] else [] := by
  unfold passR
  rw [List.range_succ, List.map_append, List.filter_append, List.map_cons, List.map_nil, List.filter_cons, List.filter_nil]
theorem passR_len (n : Int) (l : List S58) (sv st v : Int) (i : Nat) : (passR n l sv st v i).length ≤ i := by
  unfold passR
  have := List.length_filter_le (fun u => decide (u = sv) || cutV n l sv st v u) ((List.range i).map fun (i : Nat) => (i : Int))
  simpa using this
/-- What Passed and Trail return. -/
theorem trail_works (n : Int) (l : List S58) (sv st v : Int) : ∃ t, trailF n l sv st v = some (t, trailE n l sv st v) ∧ passedF n l sv st v = some (if trailE n l sv st v = 0 then passR n l sv st v n.toNat else [], trailE n l sv st v) ∧
    (trailE n l sv st v ≠ 0 → t = []) ∧ (trailE n l sv st v = 0 → (t.length : Int) < n ∧ checkTrailF n l sv st v t false = 0) := by
  unfold trailF passedF trailE
  by_cases h0 : openE n l sv st [v] = 0
  · obtain ⟨hy, hs, ht, hv⟩ := open_parts h0
    have hv' := hv v (by simp)
    have h2 := hy.n2
    rw [if_neg (show ¬ openE n l sv st [v] ≠ 0 by omega), if_neg (show ¬ openE n l sv st [v] ≠ 0 by omega), if_neg (show ¬ openE n l sv st [v] ≠ 0 by omega)]
    have eg : ∀ x, (runC soonF (fun _ => true) n l sv st).1.getD v.toNat 0 = x ↔ gc (runC soonF (fun _ => true) n l sv st).1 v = x := fun x => Iff.rfl
    by_cases h1 : gc (runC soonF (fun _ => true) n l sv st).1 v = 1048576
    · rw [if_pos ((eg _).2 h1), if_pos ((eg _).2 h1), if_pos h1]
      exact ⟨[], rfl, rfl, fun _ => rfl, fun h => absurd h (by decide)⟩
    · rw [if_neg (fun h => h1 ((eg _).1 h)), if_neg (fun h => h1 ((eg _).1 h)), if_neg h1]
      obtain ⟨rk, hF, w, hw, hW, hl⟩ := way_found hy ht hs hv' h1
      rw [hw]
      refine ⟨w.reverse, rfl, ?_, fun h => absurd rfl h, fun _ => ⟨by rw [List.length_reverse]; omega, ?_⟩⟩
      · simp only [if_true]
        rw [mergeSort_passR hy ht hs hv' hF h1 hW]
      · have hix := WayB.ix w v hW
        unfold checkTrailF
        rw [if_neg (show ¬ openE n l sv st [v] ≠ 0 by omega), if_neg (by rw [List.length_reverse]; omega), if_neg, walkT_E]
        · simp only [Bool.false_eq_true, if_false]
          rw [WayB.walk hF.own w v hW]
          simp
        · rw [List.any_eq_true]
          rintro ⟨i, hi, hb⟩
          have := hix i (List.mem_reverse.1 hi)
          unfold badIx at hb
          simp only [Bool.or_eq_true, decide_eq_true_eq] at hb
          omega
  · rw [if_pos h0, if_pos h0, if_pos h0]
    exact ⟨[], rfl, by rw [if_neg h0], fun _ => rfl, fun h => absurd h h0⟩
end Go.Proofs.Ytfhmepdbbhcncaa.P
