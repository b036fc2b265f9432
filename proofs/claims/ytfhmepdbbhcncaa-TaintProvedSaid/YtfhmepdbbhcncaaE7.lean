import Derived.Test.YtfhmepdbbhcncaaE6
import Derived.Test.YtfhmepdbbhcncaaM
import Derived.Deep.QuietTactic
import Derived.BigQuiet
namespace Go.Proofs.Ytfhmepdbbhcncaa.P
open Go.RowKit Go.Proofs.YtfhmepdbbhcncaaW.PrintWords Go.Proofs.YtfhmepdbbhcncaaW.PrintLast Go.Proofs.YtfhmepdbbhcncaaW.PrintMore Go.Proofs.YtfhmepdbbhcncaaM
set_option linter.unusedVariables false
set_option linter.unusedSimpArgs false

/-- the cells of a search -/
def sArr (n : Int) (s : Value) (sv st : Int) (come : List Int) (m : Value) : Array Value := ([.int .i64 n, s, .int .i64 sv, .int .i64 st] ++ (come.map (Value.int .i64) ++ [m])).toArray
structure SAt (W : World) (B : Nat) (n : Int) (s : Value) (sv st : Int) (come : List Int) (m : Value) : Prop where
  blk : Blk W B 96 (sArr n s sv st come m)
  len : come.length = 20
section
variable {W W' : World} {B : Nat} {n sv st : Int} {s m : Value} {come : List Int}
theorem SAt.c0 (h : SAt W B n s sv st come m) : W.cell? ⟨B, 0, none⟩ = some (.int .i64 n) := by rw [h.blk.cell]; rfl
theorem SAt.c1 (h : SAt W B n s sv st come m) : W.cell? ⟨B, 1, none⟩ = some s := by rw [h.blk.cell]; rfl
theorem SAt.c2 (h : SAt W B n s sv st come m) : W.cell? ⟨B, 2, none⟩ = some (.int .i64 sv) := by rw [h.blk.cell]; rfl
theorem SAt.c3 (h : SAt W B n s sv st come m) : W.cell? ⟨B, 3, none⟩ = some (.int .i64 st) := by rw [h.blk.cell]; rfl
theorem SAt.cm (h : SAt W B n s sv st come m) (v : Nat) (hv : v < 20) : W.cell? ⟨B, 4 + v, none⟩ = some (.int .i64 (come.getD v 0)) := by
  have := h.len
  rw [h.blk.cell]
  simp only [sArr, List.getElem?_toArray]
  rw [List.getElem?_append_right (by simp)]
  simp only [List.length_cons, List.length_nil]
  rw [show 4 + v - (0 + 1 + 1 + 1 + 1) = v by omega, List.getElem?_append_left (by simp; omega)]
  simp [show v < come.length by omega]
theorem SAt.cmap (h : SAt W B n s sv st come m) : W.cell? ⟨B, 24, none⟩ = some m := by
  have := h.len
  rw [h.blk.cell]
  simp only [sArr, List.getElem?_toArray]
  rw [List.getElem?_append_right (by simp), List.getElem?_append_right (by simp; omega)]
  simp [this]
theorem SAt.fz (h : SAt W B n s sv st come m) (j : Nat) : W.frozen? ⟨B, j, none⟩ = false := h.blk.fz j
theorem SAt.lt (h : SAt W B n s sv st come m) : B < W.heap.size := h.blk.lt
theorem SAt.kept {row : Option Nat} (h : SAt W B n s sv st come m) (hg : W.grownBy W' row) (hne : some B ≠ row) : SAt W' B n s sv st come m := ⟨h.blk.kept hg hne, h.len⟩
theorem SAt.below {k : Nat} (h : SAt W B n s sv st come m) (hb : Below k W W') (hB : B < k) : SAt W' B n s sv st come m := ⟨h.blk.below hb hB, h.len⟩
theorem SAt.alloc (h : SAt W B n s sv st come m) (o : Obj) : SAt (W.alloc o) B n s sv st come m := ⟨h.blk.alloc o, h.len⟩
theorem SAt.setCome (h : SAt W B n s sv st come m) (v : Nat) (hv : v < 20) (t : Int) : SAt (W.setCell ⟨B, 4 + v, none⟩ (.int .i64 t)) B n s sv st (come.set v t) m := by
  have hl := h.len
  refine ⟨?_, by simpa using hl⟩
  have := h.blk.set (4 + v) (.int .i64 t)
  have e : (sArr n s sv st come m).setIfInBounds (4 + v) (.int .i64 t) = sArr n s sv st (come.set v t) m := by
    simp only [sArr, List.setIfInBounds_toArray]
    rw [List.set_append_right _ _ (by simp)]
    simp only [List.length_cons, List.length_nil]
    rw [show 4 + v - (0 + 1 + 1 + 1 + 1) = v by omega, List.set_append_left _ _ (by simp; omega), List.map_set]
  rwa [e] at this
theorem SAt.setMap (h : SAt W B n s sv st come m) (m' : Value) : SAt (W.setCell ⟨B, 24, none⟩ m') B n s sv st come m' := by
  have hl := h.len
  refine ⟨?_, hl⟩
  have := h.blk.set 24 m'
  have e : (sArr n s sv st come m).setIfInBounds 24 m' = sArr n s sv st come m' := by
    simp only [sArr, List.setIfInBounds_toArray]
    rw [List.set_append_right _ _ (by simp), List.set_append_right _ _ (by simp; omega)]
    simp [hl]
  rwa [e] at this
end

theorem below_dN {B : Nat} {a w : World} (h : Below B a w) (q : Nat) : Below B a (w.drewN q) := ⟨h.os, h.tape, h.output, h.size, h.block⟩

set_option maxHeartbeats 400000 in
set_option maxRecDepth 100000 in
theorem soonest_calls (t : Int) (m : S58) (w : World) : Calls Try.prog 55 #[.int .i64 t, enc58 m] w fun e w' => e = .returned (.tuple #[.int .i64 (max t m.f2.f0), .bool (decide (t ≤ m.f2.f1))]) ∧ Below w.heap.size w w' := by
  rcases m with ⟨f, tt, ⟨lo, hi⟩⟩
  show Calls Try.prog 55 #[.int .i64 t, .agg #[.int .i64 f, .int .i64 tt, .int .i64 lo, .int .i64 hi]] w _
  by_cases hm : t < lo
  · have F := Lib.hid (show max t lo = lo by omega)
    go_enter Try.func55, Try.ntmps55
    go_wp2
    go_quiet (fail)
    go_wp2
    go_ret2
    exact ⟨by rw [F.out]; rfl, below_dN (box1 _ _) _⟩
  · have F := Lib.hid (show max t lo = t by omega)
    go_enter Try.func55, Try.ntmps55
    go_wp2
    go_quiet (fail)
    go_wp2
    go_ret2
    exact ⟨by rw [F.out]; rfl, below_dN (box1 _ _) _⟩

set_option maxHeartbeats 400000 in
set_option maxRecDepth 100000 in
theorem surest_calls (t : Int) (m : S58) (w : World) : Calls Try.prog 56 #[.int .i64 t, enc58 m] w fun e w' => e = .returned (.tuple #[.int .i64 m.f2.f1, .bool (decide (t ≤ m.f2.f0))]) ∧ Below w.heap.size w w' := by
  rcases m with ⟨f, tt, ⟨lo, hi⟩⟩
  show Calls Try.prog 56 #[.int .i64 t, .agg #[.int .i64 f, .int .i64 tt, .int .i64 lo, .int .i64 hi]] w _
  go_enter Try.func56, Try.ntmps56
  go_wp2
  go_quiet (fail)
  go_wp2
  go_ret2
  exact ⟨rfl, below_dN (box1 _ _) _⟩

set_option maxHeartbeats 400000 in
set_option maxRecDepth 100000 in
theorem any_calls (p : Value) (m : S58) (w : World) : Calls Try.prog 62 #[p, enc58 m] w fun e w' => e = .returned (.bool true) ∧ Below w.heap.size w w' := by
  rcases m with ⟨f, tt, ⟨lo, hi⟩⟩
  show Calls Try.prog 62 #[p, .agg #[.int .i64 f, .int .i64 tt, .int .i64 lo, .int .i64 hi]] w _
  go_enter Try.func62, Try.ntmps62
  go_wp2
  go_ret
  exact ⟨rfl, box1 _ _⟩

set_option maxHeartbeats 400000 in
set_option maxRecDepth 100000 in
theorem notTo_calls (b : Nat) (v : Int) (m : S58) (w : World) (hb : w.cell? ⟨b, 0, none⟩ = some (.int .i64 v)) : Calls Try.prog 66 #[enc58 m, .pointer (some ⟨b, 0, none⟩)] w fun e w' => e = .returned (.bool (m.f1 != v)) ∧ Below w.heap.size w w' := by
  rcases m with ⟨f, tt, ⟨lo, hi⟩⟩
  show Calls Try.prog 66 #[.agg #[.int .i64 f, .int .i64 tt, .int .i64 lo, .int .i64 hi], .pointer (some ⟨b, 0, none⟩)] w _
  have hlt := World.block_lt_of_cell? w _ hb
  have hlt' : b < w.heap.size := hlt
  have hne : ¬ b = w.heap.size := by omega
  go_enter Try.func66, Try.ntmps66
  go_wp2
  go_ret
  exact ⟨rfl, box1 _ _⟩

set_option maxHeartbeats 400000 in
set_option maxRecDepth 100000 in
theorem come_call (W : World) (b B : Nat) (n : Int) (s : Value) (sv st : Int) (come : List Int) (m : Value) (v : Int) (hv0 : 0 ≤ v) (hv1 : v < 20)
    (hb : W.cell? ⟨b, 0, none⟩ = some (.pointer (some ⟨B, 0, none⟩))) (h : SAt W B n s sv st come m) :
    Calls Try.prog 77 #[.int .i64 v, .pointer (some ⟨b, 0, none⟩)] W fun e w' => e = .returned (.int .i64 (come.getD v.toNat 0)) ∧ Below W.heap.size W w' := by
  have hc := h.cm v.toNat (by omega)
  clear h
  go_enter Try.func77, Try.ntmps77
  go_wp2
  go_ret
  exact ⟨rfl, Below.refl _ _⟩

set_option maxHeartbeats 400000 in
set_option maxRecDepth 100000 in
theorem same_call (W : World) (b : Nat) (v x : Int) (hb : W.cell? ⟨b, 0, none⟩ = some (.int .i64 v)) :
    Calls Try.prog 79 #[.int .i64 x, .pointer (some ⟨b, 0, none⟩)] W fun e w' => e = .returned (.bool (x == v)) ∧ Below W.heap.size W w' := by
  go_enter Try.func79, Try.ntmps79
  go_wp2
  go_ret
  exact ⟨rfl, Below.refl _ _⟩

set_option maxHeartbeats 400000 in
set_option maxRecDepth 100000 in
theorem out_call (W : World) (a : Addr) (v : Int) :
    Calls Try.prog 80 #[.pointer (some a), .int .i64 v] W fun e w' => e = .returned (.func (.func 84) #[] #[.pointer (some ⟨W.heap.size, 0, none⟩), .pointer (some ⟨W.heap.size + 1, 0, none⟩)]) ∧ w' = (W.alloc (.cells #[.pointer (some a)] 81)).alloc (.cells #[.int .i64 v] 3) := by
  go_enter Try.func80, Try.ntmps80
  go_wp2
  go_ret
  exact ⟨rfl, rfl⟩
end Go.Proofs.Ytfhmepdbbhcncaa.P
