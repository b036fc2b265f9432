import Derived.Test.YtfhmepdbbhcncaaE19
import Derived.ChangeKeysEq
namespace Go.Proofs.Ytfhmepdbbhcncaa.P
open Go.RowKit Go.Shelf Go.Proofs.YtfhmepdbbhcncaaW.PrintWords Go.Proofs.YtfhmepdbbhcncaaW.PrintLast Go.Proofs.YtfhmepdbbhcncaaW.PrintMore Go.Proofs.YtfhmepdbbhcncaaM Go.Proofs.YtfhmepdbbhcncaaR
set_option linter.unusedVariables false
set_option linter.unusedSimpArgs false

theorem all_rangeI : ∀ (xs ys : List Int), xs.length = ys.length → ((List.range xs.length).all fun i => xs.getD i 0 == ys.getD i 0) = (xs == ys)
  | [], [], _ => rfl
  | x :: xs, y :: ys, h => by
    have ih := all_rangeI xs ys (by simpa using h)
    rw [List.length_cons, List.range_succ_eq_map, List.all_cons, List.all_map]
    simp only [List.getD_cons_zero, Function.comp_def, List.getD_cons_succ, ih]
    simp [List.cons_beq_cons]
  | [], _ :: _, h => by simp at h
  | _ :: _, [], h => by simp at h

def arr (xs : List Int) : Array Value := (xs.map (Value.int .i64)).toArray
theorem part2 (xs : List Int) (i : Nat) (hi : i < xs.length) (w : World) : (part 2 (arr xs) (i * Try.prog.cellsOf 2)).run Try.prog w = .ok (.int .i64 (xs.getD i 0)) w := by
  have hc : Try.prog.cellsOf 2 = 1 := by kernel_rfl
  rw [hc]
  simp [part, isAgg, run_underlying Try.underlying2, arr, List.getD, hi]
theorem eq93 (xs ys : List Int) (hx : xs.length = 20) (hy : ys.length = 20) (w : World) : (Op.equal 93 (.agg (arr xs)) (.agg (arr ys))).run Try.prog w = .ok (xs == ys) w := by
  obtain ⟨i, hi, _⟩ := info_parts info2
  unfold Op.equal Op.maxDepth
  rw [run_equalIn_array w _ _ _ Try.underlying93 hi, ← all_rangeI xs ys (by omega), hx]
  have hl : ∀ i ∈ List.range 20, i < 20 := fun i hi => List.mem_range.1 hi
  generalize List.range 20 = is at hl ⊢
  induction is with
  | nil => simp [Op.eqItems]
  | cons j is ih =>
    have hj := hl j (by simp)
    have he : ∀ d, (Op.equalIn (d + 1) 2 (.int .i64 (xs.getD j 0)) (.int .i64 (ys.getD j 0))).run Try.prog w = .ok (xs.getD j 0 == ys.getD j 0) w := fun d => by
      simp [Op.equalIn, run_underlying Try.underlying2]
    simp only [Op.eqItems, Sem.run_bind, part2 xs j (by omega), part2 ys j (by omega), he, Result.andThen_ok, List.all_cons]
    cases xs.getD j 0 == ys.getD j 0
    · simp
    · simpa using ih (fun i hi => hl i (by simp [hi]))
end Go.Proofs.Ytfhmepdbbhcncaa.P
