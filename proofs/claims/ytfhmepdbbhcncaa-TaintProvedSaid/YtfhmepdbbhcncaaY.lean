import Derived.Test.YtfhmepdbbhcncaaX
namespace Go.Proofs.Ytfhmepdbbhcncaa.P
open Go.RowKit Go.Shelf Go.Proofs.YtfhmepdbbhcncaaW.PrintWords

/-! The chapter's example: what is told of it. -/
def yl : List S58 := [⟨0, 1, ⟨10, 12⟩⟩, ⟨1, 3, ⟨8, 9⟩⟩, ⟨1, 4, ⟨11, 20⟩⟩, ⟨1, 2, ⟨15, 18⟩⟩, ⟨2, 5, ⟨16, 30⟩⟩]
set_option maxRecDepth 100000 in
theorem yl_open : openE 6 yl 0 5 [] = 0 := by decide +kernel
set_option maxRecDepth 100000 in
theorem yl_arr : arrL 6 yl 0 5 = [5, 10, 15, 1048576, 11, 16] := by decide +kernel
set_option maxRecDepth 100000 in
theorem yl_car : carL 6 yl 0 5 = [0, 2, 3, 4] := by decide +kernel
set_option maxRecDepth 100000 in
theorem yl_sure : sureL 6 yl 0 5 = [0, 1, 2] := by decide +kernel
set_option maxRecDepth 100000 in
theorem yl_trail5 : trailF 6 yl 0 5 5 = some ([0, 3, 4], 0) := by decide +kernel
set_option maxRecDepth 100000 in
theorem yl_trail3 : trailF 6 yl 0 5 3 = some ([], 5) := by decide +kernel
set_option maxRecDepth 100000 in
theorem yl_check : checkTrailF 6 yl 0 5 4 [0, 2] true = 16 := by decide +kernel
set_option maxRecDepth 100000 in
theorem yl_given : checkArrF 6 yl 0 5 [5, 10, 15, 1048576, 11, 16] = 0 := by decide +kernel
set_option maxRecDepth 100000 in
theorem yl_pass0 : wayL yl 0 1000 (runC soonF (fun _ => true) 6 yl 0 5).2 5 [] = some [4, 3, 0] ∧ passT 6 yl 0 5 5 [0, 3, 4] 3 = [0, 1, 2, 5] ∧ openE 6 yl 0 5 [5] = 0 ∧ ¬ (runC soonF (fun _ => true) 6 yl 0 5).1.getD (Int.toNat 5) 0 = 1048576 := by decide +kernel
theorem yl_passed : passedF 6 yl 0 5 5 = some ([0, 1, 2, 5], 0) := by
  obtain ⟨h1, h2, h3, h4⟩ := yl_pass0
  unfold passedF
  rw [if_neg (by rw [h3]; simp), if_neg h4, h1]
  show some ((passT 6 yl 0 5 5 [0, 3, 4] 3).mergeSort (fun x y => decide (x ≤ y)), (0 : Int)) = _
  rw [h2, List.mergeSort_of_pairwise (by simp)]
set_option maxRecDepth 100000 in
theorem yl_causes : causesF 6 yl [2, 4] = some ([⟨0, 12⟩, ⟨1, 18⟩], 0) := by rfl
end Go.Proofs.Ytfhmepdbbhcncaa.P
