/- Texts of this claim, joined: Pf48, Pf50, XW. -/
import Derived.Test.YtcgdbjojjpoegaaGc4
namespace Go.Proofs.Ytcgdbjojjpoegaa.P
open Go.RowKit Go.Proofs.YtcgdbjojjpoegaaW.PrintWords Go.Proofs.YtcgdbjojjpoegaaW.PrintLast Go.Proofs.YtcgdbjojjpoegaaW.PrintMore
attribute [local go_sem] max2_int min2_int max_two min_two max_three min_three max_four min_four   -- for this text's walks alone
set_option linter.unusedVariables false
set_option linter.unusedSimpArgs false

/-! ### forecourtref09_CheckMix: function 48 -/
mutual
def forecourtref09_CheckMix.j0 : Nat → List (S71) → Bool → Int → List (List Int) → Option (Int)
  | 0, _, _, _, _ => none
  | k + 1, x1, x25, x349000, x349001 => if x25 = true then (some 6) else (forecourtref09_CheckMix.l0 k x1 0 x349000 x349001)
def forecourtref09_CheckMix.l0 : Nat → List (S71) → Int → Int → List (List Int) → Option (Int)
  | 0, _, _, _, _ => none
  | k + 1, x1, x5, x349000, x349001 => if x5 < (x1.length : Int) then (if 0 ≤ x5 then (if ((rd_T71 x1 x5).f0) < 1 then (some 3) else (if ((rd_T71 x1 x5).f0) > x349000 then (some 3) else (forecourtref09_CheckMix.l0 k x1 (wrap64 (x5 + 1)) x349000 x349001))) else (none)) else (forecourtref09_CheckMix.l1 k x1 0 x349000 x349001)
def forecourtref09_CheckMix.l1 : Nat → List (S71) → Int → Int → List (List Int) → Option (Int)
  | 0, _, _, _, _ => none
  | k + 1, x1, x6, x349000, x349001 => if x6 < (x1.length : Int) then (if 0 ≤ x6 then ((forecourtref09_CheckRounding.f k x349000 x349001 ((rd_T71 x1 x6).f1)).bind fun t354 => (if t354 = 0 then (forecourtref09_CheckMix.l1 k x1 (wrap64 (x6 + 1)) x349000 x349001) else ((forecourtref09_CheckRounding.f k x349000 x349001 ((rd_T71 x1 x6).f1)).bind fun t356 => (some t356)))) else (none)) else (forecourtref09_CheckMix.l2 k x1 0 0 x349000 x349001)
def forecourtref09_CheckMix.l2 : Nat → List (S71) → Int → Int → Int → List (List Int) → Option (Int)
  | 0, _, _, _, _, _ => none
  | k + 1, x1, x7, x8, x349000, x349001 => if x8 < (x1.length : Int) then (if 0 ≤ x8 then (forecourtref09_CheckMix.l2 k x1 (wrap64 (x7 + ((rd_T71 x1 x8).f0))) (wrap64 (x8 + 1)) x349000 x349001) else (none)) else (if x7 = x349000 then (forecourtref09_CheckMix.l3 k x1 0 x349000 x349001) else (some 14))
def forecourtref09_CheckMix.l3 : Nat → List (S71) → Int → Int → List (List Int) → Option (Int)
  | 0, _, _, _, _ => none
  | k + 1, x1, x9, x349000, x349001 => if x9 < (x349001.length : Int) then (forecourtref09_CheckMix.l4 k x1 x9 0 x349000 x349001) else (some 0)
def forecourtref09_CheckMix.l4 : Nat → List (S71) → Int → Int → Int → List (List Int) → Option (Int)
  | 0, _, _, _, _, _ => none
  | k + 1, x1, x9, x10, x349000, x349001 => if 0 ≤ x9 then (if x9 < (x349001.length : Int) then (if x10 < ((rd_L2 x349001 x9).length : Int) then (forecourtref09_CheckMix.l5 k x1 x9 x10 0 0 x349000 x349001) else (forecourtref09_CheckMix.l3 k x1 (wrap64 (x9 + 1)) x349000 x349001)) else (none)) else (none)
def forecourtref09_CheckMix.l5 : Nat → List (S71) → Int → Int → Int → Int → Int → List (List Int) → Option (Int)
  | 0, _, _, _, _, _, _, _ => none
  | k + 1, x1, x9, x10, x11, x12, x349000, x349001 => if x12 < (x1.length : Int) then (if 0 ≤ x12 then (if 0 ≤ x9 then (if x9 < (((rd_T71 x1 x12).f1).length : Int) then (if 0 ≤ x10 then (if x10 < ((rd_L2 ((rd_T71 x1 x12).f1) x9).length : Int) then (forecourtref09_CheckMix.l5 k x1 x9 x10 (wrap64 (x11 + (wrap64 (((rd_T71 x1 x12).f0) * (rd (rd_L2 ((rd_T71 x1 x12).f1) x9) x10))))) (wrap64 (x12 + 1)) x349000 x349001) else (none)) else (none)) else (none)) else (none)) else (none)) else (if 0 ≤ x9 then (if x9 < (x349001.length : Int) then (if 0 ≤ x10 then (if x10 < ((rd_L2 x349001 x9).length : Int) then (if x11 = (rd (rd_L2 x349001 x9) x10) then (forecourtref09_CheckMix.l4 k x1 x9 (wrap64 (x10 + 1)) x349000 x349001) else (some 14)) else (none)) else (none)) else (none)) else (none))
end
def forecourtref09_CheckMix.f (k : Nat) (a0_0 : Int) (l0_1 : List (List Int)) (l1 : List (S71)) : Option (Int) := (forecourtref09_CheckTable.f k a0_0 l0_1).bind fun t349 => (if t349 = 0 then (if (l1.length : Int) < 1 then (forecourtref09_CheckMix.j0 k l1 true a0_0 l0_1) else (forecourtref09_CheckMix.j0 k l1 (decide ((l1.length : Int) > 60)) a0_0 l0_1)) else ((forecourtref09_CheckTable.f k a0_0 l0_1).bind fun t350 => (some t350)))
def forecourtref09_CheckMix.T8 : Bool × List (List Nat × List Nat) := (true, [([], []), ([], []), ([0, 1], [0, 1]), ([2], [2]), ([3], [3]), ([4], [4]), ([5], [5]), ([6], [6]), ([6], [6]), ([7, 8, 6], [6, 7, 8]), ([9, 6], [6, 9]), ([10, 6], [6, 10]), ([6], [6]), ([12, 6], [6, 12]), ([11, 13, 6], [6, 11, 13]), ([6, 14], [6, 14])])
def forecourtref09_CheckMix.B8 : List Nat := [0, 0, 3, 7, 15, 31, 63, 127, 127, 511, 1023, 2047, 127, 4223, 16383, 32767]
theorem forecourtref09_CheckMix.tab8 : rtab .any (opsOf Try.f48 8) = forecourtref09_CheckMix.T8 := by kernel_rfl
theorem forecourtref09_CheckMix.bits8 : waitsOk forecourtref09_CheckMix.T8.2 forecourtref09_CheckMix.B8 = true := by kernel_rfl
def forecourtref09_CheckMix.T13 : Bool × List (List Nat × List Nat) := (true, [([], []), ([], []), ([], []), ([1, 2], [1, 2]), ([3], [3]), ([4], [4]), ([0, 5], [0, 5]), ([6], [6])])
def forecourtref09_CheckMix.B13 : List Nat := [0, 0, 0, 6, 14, 30, 63, 127]
theorem forecourtref09_CheckMix.tab13 : rtab .any (opsOf Try.f48 13) = forecourtref09_CheckMix.T13 := by kernel_rfl
theorem forecourtref09_CheckMix.bits13 : waitsOk forecourtref09_CheckMix.T13.2 forecourtref09_CheckMix.B13 = true := by kernel_rfl
def forecourtref09_CheckMix.T14 : Bool × List (List Nat × List Nat) := (true, [([], []), ([], []), ([], []), ([1, 2], [1, 2]), ([3], [3]), ([4], [4]), ([0, 5], [0, 5]), ([6, 6, 0, 1, 2, 3, 4, 5, 6], [6])])
def forecourtref09_CheckMix.B14 : List Nat := [0, 0, 0, 6, 14, 30, 63, 127]
theorem forecourtref09_CheckMix.tab14 : rtab .any (opsOf Try.f48 14) = forecourtref09_CheckMix.T14 := by kernel_rfl
theorem forecourtref09_CheckMix.bits14 : waitsOk forecourtref09_CheckMix.T14.2 forecourtref09_CheckMix.B14 = true := by kernel_rfl
def forecourtref09_CheckMix.T32 : Bool × List (List Nat × List Nat) := (true, [([], []), ([], []), ([], []), ([1, 2], [1, 2]), ([3], [3]), ([4], [4]), ([], []), ([], []), ([6, 7], [6, 7]), ([8], [8]), ([9], [9]), ([], []), ([10, 11], [10, 11]), ([12], [12]), ([], []), ([13, 14], [13, 14]), ([15], [15]), ([5, 16], [5, 16]), ([0, 17], [0, 17]), ([18, 0, 1, 2, 3, 4, 5, 6, 7, 8, 9, 10, 11, 12, 13, 14, 15, 16, 17, 18], [0, 18])])
def forecourtref09_CheckMix.B32 : List Nat := [0, 0, 0, 6, 14, 30, 0, 0, 192, 448, 960, 0, 4032, 8128, 0, 32704, 65472, 131070, 262143, 524287]
theorem forecourtref09_CheckMix.tab32 : rtab .any (opsOf Try.f48 32) = forecourtref09_CheckMix.T32 := by kernel_rfl
theorem forecourtref09_CheckMix.bits32 : waitsOk forecourtref09_CheckMix.T32.2 forecourtref09_CheckMix.B32 = true := by kernel_rfl
set_option maxHeartbeats 8000000 in
set_option maxRecDepth 100000 in
theorem forecourtref09_CheckMix.calls (k : Nat) (a0_0 : Int) (A0_1 : Option Addr) (c0_1 : Nat) (l0_1 : List (List Int)) (A1 : Option Addr) (c1 : Nat) (l1 : List (S71)) (r : Int) (w : World) (hr0_1 : Kd.C (Kd.slice 2 (Kd.int .i64)) w A0_1 l0_1.length l0_1) (hc0_1 : l0_1.length ≤ c0_1) (hr1 : Kd.C k71 w A1 l1.length l1) (hc1 : l1.length ≤ c1) (h : forecourtref09_CheckMix.f k a0_0 l0_1 l1 = some r) :
    Calls Try.prog 48 #[.agg #[.int .i64 a0_0, .slice A0_1 l0_1.length c0_1], .slice A1 l1.length c1] w fun e w' => e = .returned (.int .i64 r) ∧ Below w.heap.size w w' := by
  have hu39 := Try.underlying39
  have HR0_1 := Aside0.mk hr0_1
  have HC0_1 := Aside0.mk hc0_1
  clear hr0_1 hc0_1
  have HR1 := Aside0.mk hr1
  have HC1 := Aside0.mk hc1
  clear hr1 hc1
  have HB := Aside0.mk (Below.refl w.heap.size w)
  have H : ((forecourtref09_CheckTable.f k a0_0 l0_1).bind fun t349 => (if t349 = 0 then (if (l1.length : Int) < 1 then (forecourtref09_CheckMix.j0 k l1 true a0_0 l0_1) else (forecourtref09_CheckMix.j0 k l1 (decide ((l1.length : Int) > 60)) a0_0 l0_1)) else ((forecourtref09_CheckTable.f k a0_0 l0_1).bind fun t350 => (some t350)))) = some r := h
  clear h
  replace H := Option.bind_eq_some_iff.mp H
  obtain ⟨t349, A30, H⟩ := H
  replace H : (if t349 = 0 then (if (l1.length : Int) < 1 then (forecourtref09_CheckMix.j0 k l1 true a0_0 l0_1) else (forecourtref09_CheckMix.j0 k l1 (decide ((l1.length : Int) > 60)) a0_0 l0_1)) else ((forecourtref09_CheckTable.f k a0_0 l0_1).bind fun t350 => (some t350))) = some r := H
  have A3 := Aside0.mk A30
  clear A30
  by_cases c4 : t349 = 0
  rotate_left
  · rw [if_neg c4] at H
    have c4b0 : (t349 == 0) = false := beq_eq_false_iff_ne.mpr c4
    have c4b1 : (t349 != 0) = true := bne_iff_ne.mpr c4
    replace H := Option.bind_eq_some_iff.mp H
    obtain ⟨t350, A560, H⟩ := H
    have H_EQ := Aside0.mk (show t349 = t350 from Option.some.inj (A3.out.symm.trans A560))
    replace H : (some t350) = some r := H
    have A56 := Aside0.mk A560
    clear A560
    obtain rfl := Option.some.inj H
    go_enter Try.func48, Try.ntmps48
    go_wp2_with (first | ((with_reducible refine gate_dst (N := 2) rfl ?_); (try (refine gate_guard (by rfl) ?_; dsimp only)); refine bx_ (cs := #[.int .i64 a0_0, .slice A0_1 l0_1.length c0_1]) (t := 39) (fun gb348 w57 BK348 GE348 HB => ?_); obtain ⟨hcz58_0, hcz58_1, hfz58_0, hfz58_1⟩ := cz2_ BK348.out) | ((with_reducible refine gate_callee (f := 29) rfl ?_); refine goesL_ (some 14) rfl rfl Try.func29 (by kernel_rfl) rfl #[.agg #[.int .i64 a0_0, .slice A0_1 l0_1.length c0_1]] rfl b3_ ?_; (with_reducible refine (forecourtref09_CheckTable.calls k a0_0 _ _ l0_1 t349 _ ?side1 ?side2 A3.out).mono ?_); (case side1 => repeat (first | exact (Kd.C_below HR0_1.out HB.out) | (with_reducible refine Kd.C_alloc ?_ _) | (with_reducible refine Kd.C_drewN ?_ _) | (with_reducible refine Kd.C_drew ?_))); (case side2 => exact HC0_1.out); rintro e w59 ⟨rfl, hb⟩; refine ⟨_, rfl, ?_⟩; replace BK348 := bk_ BK348 hb; replace HB := hB_ HB hb; (try clear hb); obtain ⟨hcz60_0, hcz60_1, hfz60_0, hfz60_1⟩ := cz2_ BK348.out) | ((with_reducible refine gate_callee (f := 29) rfl ?_); refine goesL_ (some 17) rfl rfl Try.func29 (by kernel_rfl) rfl #[.agg #[.int .i64 a0_0, .slice A0_1 l0_1.length c0_1]] rfl b3_ ?_; (with_reducible refine (forecourtref09_CheckTable.calls k a0_0 _ _ l0_1 t350 _ ?side1 ?side2 A56.out).mono ?_); (case side1 => repeat (first | exact (Kd.C_below HR0_1.out HB.out) | (with_reducible refine Kd.C_alloc ?_ _) | (with_reducible refine Kd.C_drewN ?_ _) | (with_reducible refine Kd.C_drew ?_))); (case side2 => exact HC0_1.out); rintro e w61 ⟨rfl, hb⟩; refine ⟨_, rfl, ?_⟩; replace BK348 := bk_ BK348 hb; replace HB := hB_ HB hb; (try clear hb)))
    go_ret
    obtain rfl := H_EQ.out
    exact ⟨b4_, b1_⟩
  rw [if_pos c4] at H
  have c4b0 : (t349 == 0) = true := beq_iff_eq.mpr c4
  have c4b1 : (t349 != 0) = false := bne_eq_false_iff_eq.mpr c4
  clear c4
  have HC5 := Aside0.mk H
  clear H
  go_enter Try.func48, Try.ntmps48
  go_upto_region 3 with (first | ((with_reducible refine gate_dst (N := 2) rfl ?_); (try (refine gate_guard (by rfl) ?_; dsimp only)); refine bx_ (cs := #[.int .i64 a0_0, .slice A0_1 l0_1.length c0_1]) (t := 39) (fun gb348 w6 BK348 GE348 HB => ?_); obtain ⟨hcz7_0, hcz7_1, hfz7_0, hfz7_1⟩ := cz2_ BK348.out) | ((with_reducible refine gate_callee (f := 29) rfl ?_); refine goesL_ (some 14) rfl rfl Try.func29 (by kernel_rfl) rfl #[.agg #[.int .i64 a0_0, .slice A0_1 l0_1.length c0_1]] rfl b3_ ?_; (with_reducible refine (forecourtref09_CheckTable.calls k a0_0 _ _ l0_1 t349 _ ?side1 ?side2 A3.out).mono ?_); (case side1 => repeat (first | exact (Kd.C_below HR0_1.out HB.out) | (with_reducible refine Kd.C_alloc ?_ _) | (with_reducible refine Kd.C_drewN ?_ _) | (with_reducible refine Kd.C_drew ?_))); (case side2 => exact HC0_1.out); rintro e w8 ⟨rfl, hb⟩; refine ⟨_, rfl, ?_⟩; replace BK348 := bk_ BK348 hb; replace HB := hB_ HB hb; (try clear hb)))
  (try simp only [Act.put, List.setIfInBounds_toArray, List.set_cons_zero, List.set_cons_succ])
  go_cut [25] (fun v25 wc => ∃ (kq : Nat) (x25_4 : Bool), v25 = .bool x25_4 ∧ Aside0 (forecourtref09_CheckMix.j0 kq l1 x25_4 a0_0 l0_1 = some r) ∧ Aside0 (kq ≤ k) ∧ Aside0 (wc.heap[gb348]? = some (.cells #[.int .i64 a0_0, (.slice A0_1 l0_1.length c0_1)] 39 (0, 0))) ∧ Aside0 (Below w.heap.size w wc))
  case first =>
    have H := HC5.out
    clear HC5
    by_cases c9 : (l1.length : Int) < 1
    · rw [if_pos c9] at H
      have c9b0 : decide ((l1.length : Int) < 1) = true := decide_eq_true c9
      have c9b1 : decide (l1.length < 1) = true := decide_eq_true (by omega)
      clear c9
      (first | rw [c9b0] | (simp only [i64_w, i32_w]; rw [c9b0]) | skip)
      have H' := Aside0.mk H
      clear H
      go_wp2
      go_meet
      case rel => exact ⟨_, (true), b5_, H', ⟨b26_⟩, ⟨b15_⟩, ⟨b1_⟩⟩
    rw [if_neg c9] at H
    have c9b0 : decide ((l1.length : Int) < 1) = false := decide_eq_false c9
    have c9b1 : decide (l1.length < 1) = false := decide_eq_false (by omega)
    clear c9
    (first | rw [c9b0] | (simp only [i64_w, i32_w]; rw [c9b0]) | skip)
    have H' := Aside0.mk H
    clear H
    go_wp2
    go_meet
    case rel => exact ⟨_, (decide ((l1.length : Int) > 60)), b5_, H', ⟨b26_⟩, ⟨b15_⟩, ⟨b1_⟩⟩
  clear HC5
  try clear c1
  try clear c2
  try clear p2
  try clear c4
  try clear c4b0
  try clear c4b1
  try clear c9
  try clear c9b0
  try clear c9b1
  try clear hcz7_0
  try clear hcz7_1
  try clear hfz7_0
  try clear hfz7_1
  obtain ⟨kq, x25_4, rfl, HA, HJ4, BK348, HB⟩ := hcut
  cases kq with
  | zero => exact absurd HA.out (by simp [forecourtref09_CheckMix.j0])
  | succ kj4 => ?_
  have H := HA.out
  clear HA
  simp only [forecourtref09_CheckMix.j0] at H
  by_cases c10 : x25_4 = true
  · subst c10
    have H1 : (some 6) = some r := by rw [if_pos rfl] at H; exact H
    clear H
    have H := H1
    clear H1
    obtain rfl := Option.some.inj H
    go_wp2
    go_ret
    exact ⟨b4_, b1_⟩
  replace c10 := Bool.eq_false_iff.mpr c10
  subst c10
  have H1 : (forecourtref09_CheckMix.l0 kj4 l1 0 a0_0 l0_1) = some r := by rw [if_neg (show ¬ (false = true) by decide)] at H; exact H
  clear H
  have H := H1
  clear H1
  have H' := Aside0.mk H
  clear H
  go_wp2
  go_loopg [5] kj4 (fun kq v5 w' => ∃ (x5_2 : Int), v5 = .int .i64 x5_2 ∧ Aside0 (forecourtref09_CheckMix.l0 kq l1 x5_2 a0_0 l0_1 = some r) ∧ Aside0 (kq ≤ kj4) ∧ Aside0 (w'.heap[gb348]? = some (.cells #[.int .i64 a0_0, (.slice A0_1 l0_1.length c0_1)] 39 (0, 0))) ∧ Aside0 (Below w.heap.size w w'))
  case atStart => exact ⟨(0), b5_, H', ⟨Nat.le_refl _⟩, ⟨b15_⟩, ⟨b1_⟩⟩
  clear H'
  try clear c1
  try clear c2
  try clear p2
  try clear c4
  try clear c4b0
  try clear c4b1
  try clear c9
  try clear c9b0
  try clear c9b1
  try clear c10
  try clear hcz7_0
  try clear hcz7_1
  try clear hfz7_0
  try clear hfz7_1
  try clear p2
  obtain ⟨x5_2, rfl, HA, HK2, BK348, HB⟩ := hrel
  cases gk with
  | zero => exact absurd HA.out (by simp [forecourtref09_CheckMix.l0])
  | succ k2 => ?_
  have H := HA.out
  clear HA
  simp only [forecourtref09_CheckMix.l0] at H
  by_cases c11 : x5_2 < (l1.length : Int)
  · rw [if_pos c11] at H
    have c11b0 : decide (x5_2 < (l1.length : Int)) = true := decide_eq_true c11
    clear c11
    by_cases c12 : 0 ≤ x5_2
    rotate_left
    · rw [if_neg c12] at H
      exact absurd H (by simp)
    rw [if_pos c12] at H
    have c12b0 : decide (0 ≤ x5_2) = true := decide_eq_true c12
    clear c12
    by_cases c13 : ((rd_T71 l1 x5_2).f0) < 1
    · rw [if_pos c13] at H
      have c13b0 : decide (((rd_T71 l1 x5_2).f0) < 1) = true := decide_eq_true c13
      clear c13
      obtain rfl := Option.some.inj H
      try go_wp2
      replace BK348 := Aside0.mk (blk_drew BK348.out)
      replace HB := Aside0.mk (below_drew1 HB.out)
      have p351 : 0 ≤ (x5_2 : Int) := of_decide_eq_true b2_
      have q351 : x5_2 < (l1.length : Int) := of_decide_eq_true b2_
      obtain ⟨ad351, A351_1, c351_1, e351, hx351_0, hx351_1, hl351_1, hi351_1⟩ := at_T71 HR1.out x5_2 p351 q351
      have hw351_1 := hx351_1
      have hw351_0 := hx351_0
      cases e351
      replace hx351_0 := (HB.out.cell (World.block_lt_of_cell? w _ hx351_0)).trans hx351_0
      replace hx351_1 := (HB.out.cell (World.block_lt_of_cell? w _ hx351_1)).trans hx351_1
      have HR351_1 := Aside0.mk hi351_1
      have HC351_1 := Aside0.mk hl351_1
      clear hi351_1 hl351_1
      replace p351 := eq_true p351
      replace q351 := eq_true q351
      refine start_ (n := 16) (S := fun w' => w'.cell? (ad351.add ((x5_2).toNat * 2)) = some (.int .i64 ((rd_T71 l1 x5_2).f0)) ∧ w'.cell? ⟨(ad351.add ((x5_2).toNat * 2)).block, (ad351.add ((x5_2).toNat * 2)).off + 1, none⟩ = some (.slice A351_1 ((rd_T71 l1 x5_2).f1).length c351_1)) (ds := []) #[false, false, false, false, false, false, false, false, false, false, false, false, false, false, false, false] (by kernel_rfl) rfl rfl ⟨((HB.out.cell (World.block_lt_of_cell? w _ hw351_0)).trans hw351_0), ((HB.out.cell (World.block_lt_of_cell? w _ hw351_1)).trans hw351_1)⟩ (fun hHeld => ?_); refine with_tabW forecourtref09_CheckMix.tab8 forecourtref09_CheckMix.bits8 (fun HT_ HW_ => ?_)
      generalize wr.drew = w14 at BK348 HB HR351_1 hx351_0 hx351_1 hHeld ⊢
      refine pA_ 0 (some 32) 16 1 ?_
      refine pA_ 1 (some 33) 16 3 ?_
      refine pA_ 2 (some 34) 16 7 ?_
      refine pA_ 3 (some 35) 16 15 ?_
      refine tB_ 4 (some 36) 16 31 ?_
      refine pA_ 5 (some 37) 16 63 ?_
      refine pA_ 6 (some 38) 16 127 ?_
      refine pure_ (i := 7) (N := some 39) (v := undef) (a' := ?_) #[true, true, true, true, true, true, true, true, false, false, false, false, false, false, false, false] rfl rfl (any_of HT_.out (by kernel_rfl)) (fun _ _ _ h => h) (Or.inr ⟨(by rfl), rfl⟩) ?_ ?_
      rotate_left
      · simp only [Act.put, List.setIfInBounds_toArray, List.set_cons_zero, List.set_cons_succ, i64_w, i32_w]
        rfl
      refine pure_ (i := 8) (N := some 40) (v := undef) (a' := ?_) #[true, true, true, true, true, true, true, true, true, false, false, false, false, false, false, false] rfl rfl (any_of HT_.out (by kernel_rfl)) (fun _ _ _ h => h) (Or.inr ⟨(by rfl), rfl⟩) ?_ ?_
      rotate_left
      · simp only [Act.put, List.setIfInBounds_toArray, List.set_cons_zero, List.set_cons_succ, i64_w, i32_w]
        rfl
      refine pure_ (i := 9) (N := some 41) (v := undef) (a' := ?_) #[true, true, true, true, true, true, true, true, true, true, false, false, false, false, false, false] rfl rfl (any_of HT_.out (by kernel_rfl)) (fun _ _ _ h => h) (Or.inr ⟨(by rfl), rfl⟩) ?_ ?_
      rotate_left
      · simp only [Act.put, List.setIfInBounds_toArray, List.set_cons_zero, List.set_cons_succ, i64_w, i32_w]
        rfl
      refine pure_ (i := 10) (N := some 42) (v := undef) (a' := ?_) #[true, true, true, true, true, true, true, true, true, true, true, false, false, false, false, false] rfl rfl (any_of HT_.out (by kernel_rfl)) (fun _ _ _ h => h) (Or.inr ⟨(by rfl), rfl⟩) ?_ ?_
      rotate_left
      · simp only [Act.put, List.setIfInBounds_toArray, List.set_cons_zero, List.set_cons_succ, i64_w, i32_w]
        rfl
      refine pure_ (i := 11) (N := some 43) (v := undef) (a' := ?_) #[true, true, true, true, true, true, true, true, true, true, true, true, false, false, false, false] rfl rfl (any_of HT_.out (by kernel_rfl)) (fun _ _ _ h => h) (Or.inr ⟨(by rfl), rfl⟩) ?_ ?_
      rotate_left
      · simp only [Act.put, List.setIfInBounds_toArray, List.set_cons_zero, List.set_cons_succ, i64_w, i32_w]
        rfl
      refine pure_ (i := 12) (N := some 44) (v := undef) (a' := ?_) #[true, true, true, true, true, true, true, true, true, true, true, true, true, false, false, false] rfl rfl (any_of HT_.out (by kernel_rfl)) (fun _ _ _ h => h) (Or.inr ⟨(by rfl), rfl⟩) ?_ ?_
      rotate_left
      · simp only [Act.put, List.setIfInBounds_toArray, List.set_cons_zero, List.set_cons_succ, i64_w, i32_w]
        rfl
      refine pure_ (i := 13) (N := some 45) (v := undef) (a' := ?_) #[true, true, true, true, true, true, true, true, true, true, true, true, true, true, false, false] rfl rfl (any_of HT_.out (by kernel_rfl)) (fun _ _ _ h => h) (Or.inr ⟨(by rfl), rfl⟩) ?_ ?_
      rotate_left
      · simp only [Act.put, List.setIfInBounds_toArray, List.set_cons_zero, List.set_cons_succ, i64_w, i32_w]
        rfl
      refine pure_ (i := 14) (N := some 46) (v := undef) (a' := ?_) #[true, true, true, true, true, true, true, true, true, true, true, true, true, true, true, false] rfl rfl (any_of HT_.out (by kernel_rfl)) (fun _ _ _ h => h) (Or.inr ⟨(by rfl), rfl⟩) ?_ ?_
      rotate_left
      · simp only [Act.put, List.setIfInBounds_toArray, List.set_cons_zero, List.set_cons_succ, i64_w, i32_w]
        rfl
      refine pA_ 15 (some 47) 16 65535 ?_
      refine dA_ ?_
      try go_wp2
      go_ret
      exact ⟨b4_, b1_⟩
    rw [if_neg c13] at H
    have c13b0 : decide (((rd_T71 l1 x5_2).f0) < 1) = false := decide_eq_false c13
    clear c13
    by_cases c15 : ((rd_T71 l1 x5_2).f0) > a0_0
    · rw [if_pos c15] at H
      have c15b0 : decide (a0_0 < ((rd_T71 l1 x5_2).f0)) = true := decide_eq_true c15
      clear c15
      obtain rfl := Option.some.inj H
      try go_wp2
      replace BK348 := Aside0.mk (blk_drew BK348.out)
      replace HB := Aside0.mk (below_drew1 HB.out)
      have p351 : 0 ≤ (x5_2 : Int) := of_decide_eq_true b2_
      have q351 : x5_2 < (l1.length : Int) := of_decide_eq_true b2_
      obtain ⟨ad351, A351_1, c351_1, e351, hx351_0, hx351_1, hl351_1, hi351_1⟩ := at_T71 HR1.out x5_2 p351 q351
      have hw351_1 := hx351_1
      have hw351_0 := hx351_0
      cases e351
      replace hx351_0 := (HB.out.cell (World.block_lt_of_cell? w _ hx351_0)).trans hx351_0
      replace hx351_1 := (HB.out.cell (World.block_lt_of_cell? w _ hx351_1)).trans hx351_1
      have HR351_1 := Aside0.mk hi351_1
      have HC351_1 := Aside0.mk hl351_1
      clear hi351_1 hl351_1
      replace p351 := eq_true p351
      replace q351 := eq_true q351
      have p352 : 0 ≤ (x5_2 : Int) := of_decide_eq_true b2_
      have q352 : x5_2 < (l1.length : Int) := of_decide_eq_true b2_
      obtain ⟨ad352, A352_1, c352_1, e352, hx352_0, hx352_1, hl352_1, hi352_1⟩ := at_T71 HR1.out x5_2 p352 q352
      have hw352_1 := hx352_1
      have hw352_0 := hx352_0
      obtain rfl : ad351 = ad352 := (by injection e352)
      replace hx352_0 := (HB.out.cell (World.block_lt_of_cell? w _ hx352_0)).trans hx352_0
      replace hx352_1 := (HB.out.cell (World.block_lt_of_cell? w _ hx352_1)).trans hx352_1
      have HR352_1 := Aside0.mk hi352_1
      have HC352_1 := Aside0.mk hl352_1
      clear hi352_1 hl352_1
      replace p352 := eq_true p352
      replace q352 := eq_true q352
      have ea_ := Option.some.inj (hx351_1.symm.trans hx352_1)
      injection ea_ with ea_ en_ ec_
      subst ea_
      subst ec_
      clear en_
      refine start_ (n := 16) (S := fun w' => w'.cell? ⟨gb348, 0, none⟩ = some (.int .i64 a0_0) ∧ w'.cell? ⟨gb348, 1, none⟩ = some (.slice A0_1 l0_1.length c0_1) ∧ w'.cell? (ad351.add ((x5_2).toNat * 2)) = some (.int .i64 ((rd_T71 l1 x5_2).f0)) ∧ w'.cell? ⟨(ad351.add ((x5_2).toNat * 2)).block, (ad351.add ((x5_2).toNat * 2)).off + 1, none⟩ = some (.slice A351_1 ((rd_T71 l1 x5_2).f1).length c351_1) ∧ w'.cell? (ad351.add ((x5_2).toNat * 2)) = some (.int .i64 ((rd_T71 l1 x5_2).f0)) ∧ w'.cell? ⟨(ad351.add ((x5_2).toNat * 2)).block, (ad351.add ((x5_2).toNat * 2)).off + 1, none⟩ = some (.slice A351_1 ((rd_T71 l1 x5_2).f1).length c351_1)) (ds := []) #[false, false, false, false, false, false, false, false, false, false, false, false, false, false, false, false] (by kernel_rfl) rfl rfl ⟨(blk_cell BK348.out 0).trans rfl, (blk_cell BK348.out 1).trans rfl, ((HB.out.cell (World.block_lt_of_cell? w _ hw351_0)).trans hw351_0), ((HB.out.cell (World.block_lt_of_cell? w _ hw351_1)).trans hw351_1), ((HB.out.cell (World.block_lt_of_cell? w _ hw352_0)).trans hw352_0), ((HB.out.cell (World.block_lt_of_cell? w _ hw352_1)).trans hw352_1)⟩ (fun hHeld => ?_); refine with_tabW forecourtref09_CheckMix.tab8 forecourtref09_CheckMix.bits8 (fun HT_ HW_ => ?_)
      generalize wr.drew = w16 at BK348 HB HR351_1 HR352_1 hx351_0 hx351_1 hx352_0 hx352_1 hHeld ⊢
      refine pA_ 0 (some 32) 16 1 ?_
      refine pA_ 1 (some 33) 16 3 ?_
      refine pA_ 2 (some 34) 16 7 ?_
      refine pA_ 3 (some 35) 16 15 ?_
      refine tJ_ 4 (some 36) 16 31 ?_
      refine pA_ 5 (some 37) 16 63 ?_
      refine pA_ 6 (some 38) 16 127 ?_
      refine pA_ 7 (some 39) 16 255 ?_
      refine pA_ 8 (some 40) 16 511 ?_
      refine pA_ 9 (some 41) 16 1023 ?_
      refine pA_ 10 (some 42) 16 2047 ?_
      refine pA_ 12 (some 44) 16 6143 ?_
      refine tJ_ 11 (some 43) 16 8191 ?_
      refine tJ_ 13 (some 45) 16 16383 ?_
      refine pA_ 14 (some 46) 16 32767 ?_
      refine pA_ 15 (some 47) 16 65535 ?_
      refine dA_ ?_
      try go_wp2
      go_ret
      exact ⟨b4_, b1_⟩
    rw [if_neg c15] at H
    have c15b0 : decide (a0_0 < ((rd_T71 l1 x5_2).f0)) = false := decide_eq_false c15
    clear c15
    have H' := Aside0.mk H
    clear H
    try go_wp2
    replace BK348 := Aside0.mk (blk_drew BK348.out)
    replace HB := Aside0.mk (below_drew1 HB.out)
    have p351 : 0 ≤ (x5_2 : Int) := of_decide_eq_true b2_
    have q351 : x5_2 < (l1.length : Int) := of_decide_eq_true b2_
    obtain ⟨ad351, A351_1, c351_1, e351, hx351_0, hx351_1, hl351_1, hi351_1⟩ := at_T71 HR1.out x5_2 p351 q351
    have hw351_1 := hx351_1
    have hw351_0 := hx351_0
    cases e351
    replace hx351_0 := (HB.out.cell (World.block_lt_of_cell? w _ hx351_0)).trans hx351_0
    replace hx351_1 := (HB.out.cell (World.block_lt_of_cell? w _ hx351_1)).trans hx351_1
    have HR351_1 := Aside0.mk hi351_1
    have HC351_1 := Aside0.mk hl351_1
    clear hi351_1 hl351_1
    replace p351 := eq_true p351
    replace q351 := eq_true q351
    have p352 : 0 ≤ (x5_2 : Int) := of_decide_eq_true b2_
    have q352 : x5_2 < (l1.length : Int) := of_decide_eq_true b2_
    obtain ⟨ad352, A352_1, c352_1, e352, hx352_0, hx352_1, hl352_1, hi352_1⟩ := at_T71 HR1.out x5_2 p352 q352
    have hw352_1 := hx352_1
    have hw352_0 := hx352_0
    obtain rfl : ad351 = ad352 := (by injection e352)
    replace hx352_0 := (HB.out.cell (World.block_lt_of_cell? w _ hx352_0)).trans hx352_0
    replace hx352_1 := (HB.out.cell (World.block_lt_of_cell? w _ hx352_1)).trans hx352_1
    have HR352_1 := Aside0.mk hi352_1
    have HC352_1 := Aside0.mk hl352_1
    clear hi352_1 hl352_1
    replace p352 := eq_true p352
    replace q352 := eq_true q352
    have ea_ := Option.some.inj (hx351_1.symm.trans hx352_1)
    injection ea_ with ea_ en_ ec_
    subst ea_
    subst ec_
    clear en_
    refine start_ (n := 16) (S := fun w' => w'.cell? ⟨gb348, 0, none⟩ = some (.int .i64 a0_0) ∧ w'.cell? ⟨gb348, 1, none⟩ = some (.slice A0_1 l0_1.length c0_1) ∧ w'.cell? (ad351.add ((x5_2).toNat * 2)) = some (.int .i64 ((rd_T71 l1 x5_2).f0)) ∧ w'.cell? ⟨(ad351.add ((x5_2).toNat * 2)).block, (ad351.add ((x5_2).toNat * 2)).off + 1, none⟩ = some (.slice A351_1 ((rd_T71 l1 x5_2).f1).length c351_1) ∧ w'.cell? (ad351.add ((x5_2).toNat * 2)) = some (.int .i64 ((rd_T71 l1 x5_2).f0)) ∧ w'.cell? ⟨(ad351.add ((x5_2).toNat * 2)).block, (ad351.add ((x5_2).toNat * 2)).off + 1, none⟩ = some (.slice A351_1 ((rd_T71 l1 x5_2).f1).length c351_1)) (ds := []) #[false, false, false, false, false, false, false, false, false, false, false, false, false, false, false, false] (by kernel_rfl) rfl rfl ⟨(blk_cell BK348.out 0).trans rfl, (blk_cell BK348.out 1).trans rfl, ((HB.out.cell (World.block_lt_of_cell? w _ hw351_0)).trans hw351_0), ((HB.out.cell (World.block_lt_of_cell? w _ hw351_1)).trans hw351_1), ((HB.out.cell (World.block_lt_of_cell? w _ hw352_0)).trans hw352_0), ((HB.out.cell (World.block_lt_of_cell? w _ hw352_1)).trans hw352_1)⟩ (fun hHeld => ?_); refine with_tabW forecourtref09_CheckMix.tab8 forecourtref09_CheckMix.bits8 (fun HT_ HW_ => ?_)
    generalize wr.drew = w17 at BK348 HB HR351_1 HR352_1 hx351_0 hx351_1 hx352_0 hx352_1 hHeld ⊢
    refine pA_ 0 (some 32) 16 1 ?_
    refine pA_ 1 (some 33) 16 3 ?_
    refine pA_ 2 (some 34) 16 7 ?_
    refine pA_ 3 (some 35) 16 15 ?_
    refine tJ_ 4 (some 36) 16 31 ?_
    refine pA_ 5 (some 37) 16 63 ?_
    refine pA_ 6 (some 38) 16 127 ?_
    refine pA_ 7 (some 39) 16 255 ?_
    refine pA_ 8 (some 40) 16 511 ?_
    refine pA_ 9 (some 41) 16 1023 ?_
    refine pA_ 10 (some 42) 16 2047 ?_
    refine pA_ 12 (some 44) 16 6143 ?_
    refine tJ_ 11 (some 43) 16 8191 ?_
    refine tJ_ 13 (some 45) 16 16383 ?_
    refine pA_ 14 (some 46) 16 32767 ?_
    refine pA_ 15 (some 47) 16 65535 ?_
    refine dA_ ?_
    try go_wp2
    go_roundg k2
    case measure => have := HJ4.out; have := HK2.out; omega
    case rel => exact ⟨(wrap64 (x5_2 + 1)), b5_, H', ⟨(by have := HJ4.out; have := HK2.out; omega)⟩, ⟨b15_⟩, ⟨b1_⟩⟩
  rw [if_neg c11] at H
  have c11b0 : decide (x5_2 < (l1.length : Int)) = false := decide_eq_false c11
  clear c11
  have H' := Aside0.mk H
  clear H
  go_wp2
  go_loopg [6] k2 (fun kq v6 w' => ∃ (x6_3 : Int), v6 = .int .i64 x6_3 ∧ Aside0 (forecourtref09_CheckMix.l1 kq l1 x6_3 a0_0 l0_1 = some r) ∧ Aside0 (kq ≤ k2) ∧ Aside0 (w'.heap[gb348]? = some (.cells #[.int .i64 a0_0, (.slice A0_1 l0_1.length c0_1)] 39 (0, 0))) ∧ Aside0 (Below w.heap.size w w'))
  case atStart => exact ⟨(0), b5_, H', ⟨Nat.le_refl _⟩, ⟨b15_⟩, ⟨b1_⟩⟩
  clear H'
  try clear c1
  try clear c2
  try clear p2
  try clear c3
  try clear p3
  try clear q3
  try clear hx3
  try clear c4
  try clear c4b0
  try clear c4b1
  try clear p6
  try clear c9
  try clear c9b0
  try clear c9b1
  try clear c10
  try clear c11
  try clear c11b0
  try clear c12
  try clear c12b0
  try clear c13
  try clear c13b0
  try clear c15
  try clear c15b0
  try clear hcz7_0
  try clear hcz7_1
  try clear hfz7_0
  try clear hfz7_1
  try clear hx351_0
  try clear hx351_1
  try clear hx352_0
  try clear hx352_1
  try clear p2
  try clear p351
  try clear p352
  try clear q351
  try clear q352
  obtain ⟨x6_3, rfl, HA, HK3, BK348, HB⟩ := hrel
  cases gk with
  | zero => exact absurd HA.out (by simp [forecourtref09_CheckMix.l1])
  | succ k3 => ?_
  have H := HA.out
  clear HA
  simp only [forecourtref09_CheckMix.l1] at H
  by_cases c18 : x6_3 < (l1.length : Int)
  · rw [if_pos c18] at H
    have c18b0 : decide (x6_3 < (l1.length : Int)) = true := decide_eq_true c18
    clear c18
    by_cases c19 : 0 ≤ x6_3
    rotate_left
    · rw [if_neg c19] at H
      exact absurd H (by simp)
    rw [if_pos c19] at H
    have c19b0 : decide (0 ≤ x6_3) = true := decide_eq_true c19
    clear c19
    replace H := Option.bind_eq_some_iff.mp H
    obtain ⟨t354, A200, H⟩ := H
    replace H : (if t354 = 0 then (forecourtref09_CheckMix.l1 k3 l1 (wrap64 (x6_3 + 1)) a0_0 l0_1) else ((forecourtref09_CheckRounding.f k3 a0_0 l0_1 ((rd_T71 l1 x6_3).f1)).bind fun t356 => (some t356))) = some r := H
    have A20 := Aside0.mk A200
    clear A200
    by_cases c21 : t354 = 0
    · rw [if_pos c21] at H
      have c21b0 : (t354 == 0) = true := beq_iff_eq.mpr c21
      have c21b1 : (t354 != 0) = false := bne_eq_false_iff_eq.mpr c21
      clear c21
      have H' := Aside0.mk H
      clear H
      try go_wp2
      replace BK348 := Aside0.mk (blk_drew BK348.out)
      replace HB := Aside0.mk (below_drew1 HB.out)
      have p353 : 0 ≤ (x6_3 : Int) := of_decide_eq_true b2_
      have q353 : x6_3 < (l1.length : Int) := of_decide_eq_true b2_
      obtain ⟨ad353, A353_1, c353_1, e353, hx353_0, hx353_1, hl353_1, hi353_1⟩ := at_T71 HR1.out x6_3 p353 q353
      have hw353_1 := hx353_1
      have hw353_0 := hx353_0
      cases e353
      replace hx353_0 := (HB.out.cell (World.block_lt_of_cell? w _ hx353_0)).trans hx353_0
      replace hx353_1 := (HB.out.cell (World.block_lt_of_cell? w _ hx353_1)).trans hx353_1
      have HR353_1 := Aside0.mk hi353_1
      have HC353_1 := Aside0.mk hl353_1
      clear hi353_1 hl353_1
      replace p353 := eq_true p353
      replace q353 := eq_true q353
      refine start_ (n := 8) (S := fun w' => w'.cell? ⟨gb348, 0, none⟩ = some (.int .i64 a0_0) ∧ w'.cell? ⟨gb348, 1, none⟩ = some (.slice A0_1 l0_1.length c0_1) ∧ w'.cell? (ad353.add ((x6_3).toNat * 2)) = some (.int .i64 ((rd_T71 l1 x6_3).f0)) ∧ w'.cell? ⟨(ad353.add ((x6_3).toNat * 2)).block, (ad353.add ((x6_3).toNat * 2)).off + 1, none⟩ = some (.slice A353_1 ((rd_T71 l1 x6_3).f1).length c353_1)) (ds := []) #[false, false, false, false, false, false, false, false] (by kernel_rfl) rfl rfl ⟨(blk_cell BK348.out 0).trans rfl, (blk_cell BK348.out 1).trans rfl, ((HB.out.cell (World.block_lt_of_cell? w _ hw353_0)).trans hw353_0), ((HB.out.cell (World.block_lt_of_cell? w _ hw353_1)).trans hw353_1)⟩ (fun hHeld => ?_); refine with_tabW forecourtref09_CheckMix.tab13 forecourtref09_CheckMix.bits13 (fun HT_ HW_ => ?_)
      generalize wr.drew = w22 at BK348 HB HR353_1 hx353_0 hx353_1 hHeld ⊢
      refine pA_ 1 (some 55) 8 2 ?_
      refine pA_ 2 (some 56) 8 6 ?_
      refine pA_ 3 (some 57) 8 14 ?_
      refine pA_ 4 (some 58) 8 30 ?_
      refine tF_ 0 (some 54) 8 31 ?_
      refine tF_ 5 (some 59) 8 63 ?_
      refine oA_ 6 (some 60) 8 127 (fun K hK => ?_)
      refine goes_ Try.func31 (by kernel_rfl) rfl #[.agg #[.int .i64 a0_0, .slice A0_1 l0_1.length c0_1], .slice A353_1 ((rd_T71 l1 x6_3).f1).length c353_1] (by rfl) rfl rfl b3_ ?_
      with_reducible refine (forecourtref09_CheckRounding.calls k3 a0_0 _ _ l0_1 _ _ ((rd_T71 l1 x6_3).f1) t354 _ ?side1 ?side2 ?side3 ?side4 A20.out).mono ?_
      (case side1 => repeat (first | exact (Kd.C_below HR0_1.out HB.out) | (with_reducible refine Kd.C_alloc ?_ _) | (with_reducible refine Kd.C_drewN ?_ _) | (with_reducible refine Kd.C_drew ?_)))
      (case side2 => exact HC0_1.out)
      (case side3 => repeat (first | exact (Kd.C_below HR353_1.out HB.out) | (with_reducible refine Kd.C_alloc ?_ _) | (with_reducible refine Kd.C_drewN ?_ _) | (with_reducible refine Kd.C_drew ?_)))
      (case side4 => exact HC353_1.out)
      rintro e w23 ⟨rfl, hb⟩
      refine ⟨_, rfl, ?_⟩
      replace BK348 := bk_ BK348 hb
      replace HB := hB_ HB hb
      (try clear hb)
      (try clear hb2)
      (try clear hk)
      (try clear hi)
      refine hK.out _ _ ⟨(blk_cell BK348.out 0).trans rfl, (blk_cell BK348.out 1).trans rfl, ((HB.out.cell (World.block_lt_of_cell? w _ hw353_0)).trans hw353_0), ((HB.out.cell (World.block_lt_of_cell? w _ hw353_1)).trans hw353_1)⟩ (fun hHeld => ?_)
      clear hK K
      refine nA_ (some 60) ?_
      refine pA_ 7 (some 61) 8 255 ?_
      refine dA_ ?_
      try go_wp2
      go_roundg k3
      case measure => have := HJ4.out; have := HK2.out; have := HK3.out; omega
      case rel => exact ⟨(wrap64 (x6_3 + 1)), b5_, H', ⟨(by have := HJ4.out; have := HK2.out; have := HK3.out; omega)⟩, ⟨b15_⟩, ⟨b1_⟩⟩
    rw [if_neg c21] at H
    have c21b0 : (t354 == 0) = false := beq_eq_false_iff_ne.mpr c21
    have c21b1 : (t354 != 0) = true := bne_iff_ne.mpr c21
    replace H := Option.bind_eq_some_iff.mp H
    obtain ⟨t356, A240, H⟩ := H
    replace H : (some t356) = some r := H
    have A24 := Aside0.mk A240
    clear A240
    obtain rfl := Option.some.inj H
    try go_wp2
    replace BK348 := Aside0.mk (blk_drew BK348.out)
    replace HB := Aside0.mk (below_drew1 HB.out)
    have p353 : 0 ≤ (x6_3 : Int) := of_decide_eq_true b2_
    have q353 : x6_3 < (l1.length : Int) := of_decide_eq_true b2_
    obtain ⟨ad353, A353_1, c353_1, e353, hx353_0, hx353_1, hl353_1, hi353_1⟩ := at_T71 HR1.out x6_3 p353 q353
    have hw353_1 := hx353_1
    have hw353_0 := hx353_0
    cases e353
    replace hx353_0 := (HB.out.cell (World.block_lt_of_cell? w _ hx353_0)).trans hx353_0
    replace hx353_1 := (HB.out.cell (World.block_lt_of_cell? w _ hx353_1)).trans hx353_1
    have HR353_1 := Aside0.mk hi353_1
    have HC353_1 := Aside0.mk hl353_1
    clear hi353_1 hl353_1
    replace p353 := eq_true p353
    replace q353 := eq_true q353
    refine start_ (n := 8) (S := fun w' => w'.cell? ⟨gb348, 0, none⟩ = some (.int .i64 a0_0) ∧ w'.cell? ⟨gb348, 1, none⟩ = some (.slice A0_1 l0_1.length c0_1) ∧ w'.cell? (ad353.add ((x6_3).toNat * 2)) = some (.int .i64 ((rd_T71 l1 x6_3).f0)) ∧ w'.cell? ⟨(ad353.add ((x6_3).toNat * 2)).block, (ad353.add ((x6_3).toNat * 2)).off + 1, none⟩ = some (.slice A353_1 ((rd_T71 l1 x6_3).f1).length c353_1)) (ds := []) #[false, false, false, false, false, false, false, false] (by kernel_rfl) rfl rfl ⟨(blk_cell BK348.out 0).trans rfl, (blk_cell BK348.out 1).trans rfl, ((HB.out.cell (World.block_lt_of_cell? w _ hw353_0)).trans hw353_0), ((HB.out.cell (World.block_lt_of_cell? w _ hw353_1)).trans hw353_1)⟩ (fun hHeld => ?_); refine with_tabW forecourtref09_CheckMix.tab13 forecourtref09_CheckMix.bits13 (fun HT_ HW_ => ?_)
    generalize wr.drew = w25 at BK348 HB HR353_1 hx353_0 hx353_1 hHeld ⊢
    refine pA_ 1 (some 55) 8 2 ?_
    refine pA_ 2 (some 56) 8 6 ?_
    refine pA_ 3 (some 57) 8 14 ?_
    refine pA_ 4 (some 58) 8 30 ?_
    refine tF_ 0 (some 54) 8 31 ?_
    refine tF_ 5 (some 59) 8 63 ?_
    refine oA_ 6 (some 60) 8 127 (fun K hK => ?_)
    refine goes_ Try.func31 (by kernel_rfl) rfl #[.agg #[.int .i64 a0_0, .slice A0_1 l0_1.length c0_1], .slice A353_1 ((rd_T71 l1 x6_3).f1).length c353_1] (by rfl) rfl rfl b3_ ?_
    with_reducible refine (forecourtref09_CheckRounding.calls k3 a0_0 _ _ l0_1 _ _ ((rd_T71 l1 x6_3).f1) t354 _ ?side1 ?side2 ?side3 ?side4 A20.out).mono ?_
    (case side1 => repeat (first | exact (Kd.C_below HR0_1.out HB.out) | (with_reducible refine Kd.C_alloc ?_ _) | (with_reducible refine Kd.C_drewN ?_ _) | (with_reducible refine Kd.C_drew ?_)))
    (case side2 => exact HC0_1.out)
    (case side3 => repeat (first | exact (Kd.C_below HR353_1.out HB.out) | (with_reducible refine Kd.C_alloc ?_ _) | (with_reducible refine Kd.C_drewN ?_ _) | (with_reducible refine Kd.C_drew ?_)))
    (case side4 => exact HC353_1.out)
    rintro e w26 ⟨rfl, hb⟩
    refine ⟨_, rfl, ?_⟩
    replace BK348 := bk_ BK348 hb
    replace HB := hB_ HB hb
    (try clear hb)
    (try clear hb2)
    (try clear hk)
    (try clear hi)
    refine hK.out _ _ ⟨(blk_cell BK348.out 0).trans rfl, (blk_cell BK348.out 1).trans rfl, ((HB.out.cell (World.block_lt_of_cell? w _ hw353_0)).trans hw353_0), ((HB.out.cell (World.block_lt_of_cell? w _ hw353_1)).trans hw353_1)⟩ (fun hHeld => ?_)
    clear hK K
    refine nA_ (some 60) ?_
    refine pA_ 7 (some 61) 8 255 ?_
    refine dA_ ?_
    try go_wp2
    replace BK348 := Aside0.mk (blk_drew BK348.out)
    replace HB := Aside0.mk (below_drew1 HB.out)
    have p355 : 0 ≤ (x6_3 : Int) := of_decide_eq_true b2_
    have q355 : x6_3 < (l1.length : Int) := of_decide_eq_true b2_
    obtain ⟨ad355, A355_1, c355_1, e355, hx355_0, hx355_1, hl355_1, hi355_1⟩ := at_T71 HR1.out x6_3 p355 q355
    have hw355_1 := hx355_1
    have hw355_0 := hx355_0
    obtain rfl : ad353 = ad355 := (by injection e355)
    replace hx355_0 := (HB.out.cell (World.block_lt_of_cell? w _ hx355_0)).trans hx355_0
    replace hx355_1 := (HB.out.cell (World.block_lt_of_cell? w _ hx355_1)).trans hx355_1
    have HR355_1 := Aside0.mk hi355_1
    have HC355_1 := Aside0.mk hl355_1
    clear hi355_1 hl355_1
    replace p355 := eq_true p355
    replace q355 := eq_true q355
    refine start_ (n := 8) (S := fun w' => w'.cell? ⟨gb348, 0, none⟩ = some (.int .i64 a0_0) ∧ w'.cell? ⟨gb348, 1, none⟩ = some (.slice A0_1 l0_1.length c0_1) ∧ w'.cell? (ad353.add ((x6_3).toNat * 2)) = some (.int .i64 ((rd_T71 l1 x6_3).f0)) ∧ w'.cell? ⟨(ad353.add ((x6_3).toNat * 2)).block, (ad353.add ((x6_3).toNat * 2)).off + 1, none⟩ = some (.slice A355_1 ((rd_T71 l1 x6_3).f1).length c355_1)) (ds := []) #[false, false, false, false, false, false, false, false] (by kernel_rfl) rfl rfl ⟨(blk_cell BK348.out 0).trans rfl, (blk_cell BK348.out 1).trans rfl, ((HB.out.cell (World.block_lt_of_cell? w _ hw355_0)).trans hw355_0), ((HB.out.cell (World.block_lt_of_cell? w _ hw355_1)).trans hw355_1)⟩ (fun hHeld => ?_); refine with_tabW forecourtref09_CheckMix.tab14 forecourtref09_CheckMix.bits14 (fun HT_ HW_ => ?_)
    generalize w26.drew = w27 at BK348 HB HR355_1 hx355_0 hx355_1 hHeld ⊢
    refine pA_ 1 (some 63) 8 2 ?_
    refine pA_ 2 (some 64) 8 6 ?_
    refine pA_ 3 (some 65) 8 14 ?_
    refine pA_ 4 (some 66) 8 30 ?_
    refine tF_ 0 (some 62) 8 31 ?_
    refine tF_ 5 (some 67) 8 63 ?_
    refine oA_ 6 (some 68) 8 127 (fun K hK => ?_)
    refine goes_ Try.func31 (by kernel_rfl) rfl #[.agg #[.int .i64 a0_0, .slice A0_1 l0_1.length c0_1], .slice A355_1 ((rd_T71 l1 x6_3).f1).length c355_1] (by rfl) rfl rfl b3_ ?_
    with_reducible refine (forecourtref09_CheckRounding.calls k3 a0_0 _ _ l0_1 _ _ ((rd_T71 l1 x6_3).f1) t356 _ ?side1 ?side2 ?side3 ?side4 A24.out).mono ?_
    (case side1 => repeat (first | exact (Kd.C_below HR0_1.out HB.out) | (with_reducible refine Kd.C_alloc ?_ _) | (with_reducible refine Kd.C_drewN ?_ _) | (with_reducible refine Kd.C_drew ?_)))
    (case side2 => exact HC0_1.out)
    (case side3 => repeat (first | exact (Kd.C_below HR355_1.out HB.out) | (with_reducible refine Kd.C_alloc ?_ _) | (with_reducible refine Kd.C_drewN ?_ _) | (with_reducible refine Kd.C_drew ?_)))
    (case side4 => exact HC355_1.out)
    rintro e w28 ⟨rfl, hb⟩
    refine ⟨_, rfl, ?_⟩
    replace BK348 := bk_ BK348 hb
    replace HB := hB_ HB hb
    (try clear hb)
    (try clear hb2)
    (try clear hk)
    (try clear hi)
    refine hK.out _ _ ⟨(blk_cell BK348.out 0).trans rfl, (blk_cell BK348.out 1).trans rfl, ((HB.out.cell (World.block_lt_of_cell? w _ hw355_0)).trans hw355_0), ((HB.out.cell (World.block_lt_of_cell? w _ hw355_1)).trans hw355_1)⟩ (fun hHeld => ?_)
    clear hK K
    refine nA_ (some 68) ?_
    refine pA_ 7 (some 4) 8 255 ?_
    refine dA_ ?_
    try go_wp2
    go_ret
    exact ⟨b4_, b1_⟩
  rw [if_neg c18] at H
  have c18b0 : decide (x6_3 < (l1.length : Int)) = false := decide_eq_false c18
  clear c18
  have H' := Aside0.mk H
  clear H
  go_wp2
  go_loopg [7, 8] k3 (fun kq v7 v8 w' => ∃ (x7_4 : Int) (x8_4 : Int), v7 = .int .i64 x7_4 ∧ v8 = .int .i64 x8_4 ∧ Aside0 (forecourtref09_CheckMix.l2 kq l1 x7_4 x8_4 a0_0 l0_1 = some r) ∧ Aside0 (kq ≤ k3) ∧ Aside0 (w'.heap[gb348]? = some (.cells #[.int .i64 a0_0, (.slice A0_1 l0_1.length c0_1)] 39 (0, 0))) ∧ Aside0 (Below w.heap.size w w'))
  case atStart => exact ⟨(0), (0), b5_, b5_, H', ⟨Nat.le_refl _⟩, ⟨b15_⟩, ⟨b1_⟩⟩
  clear H'
  try clear c1
  try clear c2
  try clear p2
  try clear c3
  try clear p3
  try clear q3
  try clear hx3
  try clear c4
  try clear c4b0
  try clear c4b1
  try clear p6
  try clear c9
  try clear c9b0
  try clear c9b1
  try clear c10
  try clear c11
  try clear c11b0
  try clear c12
  try clear c12b0
  try clear c13
  try clear c13b0
  try clear c15
  try clear c15b0
  try clear c18
  try clear c18b0
  try clear c19
  try clear c19b0
  try clear c21
  try clear c21b0
  try clear c21b1
  try clear hcz7_0
  try clear hcz7_1
  try clear hfz7_0
  try clear hfz7_1
  try clear hx351_0
  try clear hx351_1
  try clear hx352_0
  try clear hx352_1
  try clear hx353_0
  try clear hx353_1
  try clear hx355_0
  try clear hx355_1
  try clear p2
  try clear p3
  try clear p351
  try clear p352
  try clear p353
  try clear p355
  try clear p6
  try clear q3
  try clear q351
  try clear q352
  try clear q353
  try clear q355
  obtain ⟨x7_4, x8_4, rfl, rfl, HA, HK4, BK348, HB⟩ := hrel
  cases gk with
  | zero => exact absurd HA.out (by simp [forecourtref09_CheckMix.l2])
  | succ k4 => ?_
  have H := HA.out
  clear HA
  simp only [forecourtref09_CheckMix.l2] at H
  by_cases c29 : x8_4 < (l1.length : Int)
  · rw [if_pos c29] at H
    have c29b0 : decide (x8_4 < (l1.length : Int)) = true := decide_eq_true c29
    clear c29
    by_cases c30 : 0 ≤ x8_4
    rotate_left
    · rw [if_neg c30] at H
      exact absurd H (by simp)
    rw [if_pos c30] at H
    have c30b0 : decide (0 ≤ x8_4) = true := decide_eq_true c30
    clear c30
    have H' := Aside0.mk H
    clear H
    have p357 : 0 ≤ (x8_4 : Int) := of_decide_eq_true b2_
    have q357 : x8_4 < (l1.length : Int) := of_decide_eq_true b2_
    obtain ⟨ad357, A357_1, c357_1, e357, hx357_0, hx357_1, hl357_1, hi357_1⟩ := at_T71 HR1.out x8_4 p357 q357
    cases e357
    replace hx357_0 := (HB.out.cell (World.block_lt_of_cell? w _ hx357_0)).trans hx357_0
    replace hx357_1 := (HB.out.cell (World.block_lt_of_cell? w _ hx357_1)).trans hx357_1
    have HR357_1 := Aside0.mk hi357_1
    have HC357_1 := Aside0.mk hl357_1
    clear hi357_1 hl357_1
    replace p357 := eq_true p357
    replace q357 := eq_true q357
    go_wp2
    go_roundg k4
    case measure => have := HJ4.out; have := HK2.out; have := HK3.out; have := HK4.out; omega
    case rel => exact ⟨(wrap64 (x7_4 + ((rd_T71 l1 x8_4).f0))), (wrap64 (x8_4 + 1)), b5_, b5_, H', ⟨(by have := HJ4.out; have := HK2.out; have := HK3.out; have := HK4.out; omega)⟩, ⟨b15_⟩, ⟨b1_⟩⟩
  rw [if_neg c29] at H
  have c29b0 : decide (x8_4 < (l1.length : Int)) = false := decide_eq_false c29
  clear c29
  by_cases c31 : x7_4 = a0_0
  rotate_left
  · rw [if_neg c31] at H
    have c31b0 : (x7_4 == a0_0) = false := beq_eq_false_iff_ne.mpr c31
    have c31b1 : (x7_4 != a0_0) = true := bne_iff_ne.mpr c31
    obtain rfl := Option.some.inj H
    obtain ⟨hcz55_0, hcz55_1, hfz55_0, hfz55_1⟩ := cz2_ BK348.out
    go_wp2
    go_ret
    exact ⟨b4_, b1_⟩
  rw [if_pos c31] at H
  have c31b0 : (x7_4 == a0_0) = true := beq_iff_eq.mpr c31
  have c31b1 : (x7_4 != a0_0) = false := bne_eq_false_iff_eq.mpr c31
  clear c31
  have H' := Aside0.mk H
  clear H
  obtain ⟨hcz32_0, hcz32_1, hfz32_0, hfz32_1⟩ := cz2_ BK348.out
  go_wp2
  go_loopg [9] k4 (fun kq v9 w' => ∃ (x9_5 : Int), v9 = .int .i64 x9_5 ∧ Aside0 (forecourtref09_CheckMix.l3 kq l1 x9_5 a0_0 l0_1 = some r) ∧ Aside0 (kq ≤ k4) ∧ Aside0 (w'.heap[gb348]? = some (.cells #[.int .i64 a0_0, (.slice A0_1 l0_1.length c0_1)] 39 (0, 0))) ∧ Aside0 (Below w.heap.size w w'))
  case atStart => exact ⟨(0), b5_, H', ⟨Nat.le_refl _⟩, ⟨b15_⟩, ⟨b1_⟩⟩
  clear H'
  try clear c1
  try clear c2
  try clear p2
  try clear c3
  try clear p3
  try clear q3
  try clear hx3
  try clear c4
  try clear c4b0
  try clear c4b1
  try clear p6
  try clear c9
  try clear c9b0
  try clear c9b1
  try clear c10
  try clear c11
  try clear c11b0
  try clear c12
  try clear c12b0
  try clear c13
  try clear c13b0
  try clear c15
  try clear c15b0
  try clear c18
  try clear c18b0
  try clear c19
  try clear c19b0
  try clear c21
  try clear c21b0
  try clear c21b1
  try clear c29
  try clear c29b0
  try clear c30
  try clear c30b0
  try clear c31
  try clear c31b0
  try clear c31b1
  try clear hcz32_0
  try clear hcz32_1
  try clear hcz7_0
  try clear hcz7_1
  try clear hfz32_0
  try clear hfz32_1
  try clear hfz7_0
  try clear hfz7_1
  try clear hx351_0
  try clear hx351_1
  try clear hx352_0
  try clear hx352_1
  try clear hx353_0
  try clear hx353_1
  try clear hx355_0
  try clear hx355_1
  try clear hx357_0
  try clear hx357_1
  try clear p2
  try clear p3
  try clear p351
  try clear p352
  try clear p353
  try clear p355
  try clear p357
  try clear p6
  try clear q3
  try clear q351
  try clear q352
  try clear q353
  try clear q355
  try clear q357
  obtain ⟨x9_5, rfl, HA, HK5, BK348, HB⟩ := hrel
  cases gk with
  | zero => exact absurd HA.out (by simp [forecourtref09_CheckMix.l3])
  | succ k5 => ?_
  have H := HA.out
  clear HA
  simp only [forecourtref09_CheckMix.l3] at H
  by_cases c33 : x9_5 < (l0_1.length : Int)
  rotate_left
  · rw [if_neg c33] at H
    have c33b0 : decide (x9_5 < (l0_1.length : Int)) = false := decide_eq_false c33
    clear c33
    obtain rfl := Option.some.inj H
    obtain ⟨hcz54_0, hcz54_1, hfz54_0, hfz54_1⟩ := cz2_ BK348.out
    go_wp2
    go_ret
    exact ⟨b4_, b1_⟩
  rw [if_pos c33] at H
  have c33b0 : decide (x9_5 < (l0_1.length : Int)) = true := decide_eq_true c33
  clear c33
  have H' := Aside0.mk H
  clear H
  obtain ⟨hcz34_0, hcz34_1, hfz34_0, hfz34_1⟩ := cz2_ BK348.out
  go_wp2
  go_loopg [10] k5 (fun kq v10 w' => ∃ (x10_6 : Int), v10 = .int .i64 x10_6 ∧ Aside0 (forecourtref09_CheckMix.l4 kq l1 x9_5 x10_6 a0_0 l0_1 = some r) ∧ Aside0 (kq ≤ k5) ∧ Aside0 (w'.heap[gb348]? = some (.cells #[.int .i64 a0_0, (.slice A0_1 l0_1.length c0_1)] 39 (0, 0))) ∧ Aside0 (Below w.heap.size w w'))
  case atStart => exact ⟨(0), b5_, H', ⟨Nat.le_refl _⟩, ⟨b15_⟩, ⟨b1_⟩⟩
  clear H'
  try clear c1
  try clear c2
  try clear p2
  try clear c3
  try clear p3
  try clear q3
  try clear hx3
  try clear c4
  try clear c4b0
  try clear c4b1
  try clear p6
  try clear c9
  try clear c9b0
  try clear c9b1
  try clear c10
  try clear c11
  try clear c11b0
  try clear c12
  try clear c12b0
  try clear c13
  try clear c13b0
  try clear c15
  try clear c15b0
  try clear c18
  try clear c18b0
  try clear c19
  try clear c19b0
  try clear c21
  try clear c21b0
  try clear c21b1
  try clear c29
  try clear c29b0
  try clear c30
  try clear c30b0
  try clear c31
  try clear c31b0
  try clear c31b1
  try clear c33
  try clear c33b0
  try clear hcz32_0
  try clear hcz32_1
  try clear hcz34_0
  try clear hcz34_1
  try clear hcz7_0
  try clear hcz7_1
  try clear hfz32_0
  try clear hfz32_1
  try clear hfz34_0
  try clear hfz34_1
  try clear hfz7_0
  try clear hfz7_1
  try clear hx351_0
  try clear hx351_1
  try clear hx352_0
  try clear hx352_1
  try clear hx353_0
  try clear hx353_1
  try clear hx355_0
  try clear hx355_1
  try clear hx357_0
  try clear hx357_1
  try clear p2
  try clear p3
  try clear p351
  try clear p352
  try clear p353
  try clear p355
  try clear p357
  try clear p6
  try clear q3
  try clear q351
  try clear q352
  try clear q353
  try clear q355
  try clear q357
  obtain ⟨x10_6, rfl, HA, HK6, BK348, HB⟩ := hrel
  cases gk with
  | zero => exact absurd HA.out (by simp [forecourtref09_CheckMix.l4])
  | succ k6 => ?_
  have H := HA.out
  clear HA
  simp only [forecourtref09_CheckMix.l4] at H
  by_cases c35 : 0 ≤ x9_5
  rotate_left
  · rw [if_neg c35] at H
    exact absurd H (by simp)
  rw [if_pos c35] at H
  have c35b0 : decide (0 ≤ x9_5) = true := decide_eq_true c35
  clear c35
  by_cases c36 : x9_5 < (l0_1.length : Int)
  rotate_left
  · rw [if_neg c36] at H
    exact absurd H (by simp)
  rw [if_pos c36] at H
  have c36b0 : decide (x9_5 < (l0_1.length : Int)) = true := decide_eq_true c36
  clear c36
  by_cases c37 : x10_6 < ((rd_L2 l0_1 x9_5).length : Int)
  rotate_left
  · rw [if_neg c37] at H
    have c37b0 : decide (x10_6 < ((rd_L2 l0_1 x9_5).length : Int)) = false := decide_eq_false c37
    clear c37
    have H' := Aside0.mk H
    clear H
    obtain ⟨hcz53_0, hcz53_1, hfz53_0, hfz53_1⟩ := cz2_ BK348.out
    have p358 : 0 ≤ (x9_5 : Int) := of_decide_eq_true b2_
    have q358 : x9_5 < (l0_1.length : Int) := of_decide_eq_true b2_
    obtain ⟨ad358, A358_0, c358_0, e358, hx358_0, hl358_0, hi358_0⟩ := at_L2 HR0_1.out x9_5 p358 q358
    cases e358
    replace hx358_0 := (HB.out.cell (World.block_lt_of_cell? w _ hx358_0)).trans hx358_0
    have HR358_0 := Aside0.mk hi358_0
    have HC358_0 := Aside0.mk hl358_0
    clear hi358_0 hl358_0
    replace p358 := eq_true p358
    replace q358 := eq_true q358
    go_wp2
    go_roundg k6
    case measure => have := HJ4.out; have := HK2.out; have := HK3.out; have := HK4.out; have := HK5.out; have := HK6.out; omega
    case rel => exact ⟨(wrap64 (x9_5 + 1)), b5_, H', ⟨(by have := HJ4.out; have := HK2.out; have := HK3.out; have := HK4.out; have := HK5.out; have := HK6.out; omega)⟩, ⟨b15_⟩, ⟨b1_⟩⟩
  rw [if_pos c37] at H
  have c37b0 : decide (x10_6 < ((rd_L2 l0_1 x9_5).length : Int)) = true := decide_eq_true c37
  clear c37
  have H' := Aside0.mk H
  clear H
  obtain ⟨hcz38_0, hcz38_1, hfz38_0, hfz38_1⟩ := cz2_ BK348.out
  have p358 : 0 ≤ (x9_5 : Int) := of_decide_eq_true b2_
  have q358 : x9_5 < (l0_1.length : Int) := of_decide_eq_true b2_
  obtain ⟨ad358, A358_0, c358_0, e358, hx358_0, hl358_0, hi358_0⟩ := at_L2 HR0_1.out x9_5 p358 q358
  cases e358
  replace hx358_0 := (HB.out.cell (World.block_lt_of_cell? w _ hx358_0)).trans hx358_0
  have HR358_0 := Aside0.mk hi358_0
  have HC358_0 := Aside0.mk hl358_0
  clear hi358_0 hl358_0
  replace p358 := eq_true p358
  replace q358 := eq_true q358
  go_wp2
  go_loopg [11, 12] k6 (fun kq v11 v12 w' => ∃ (x11_7 : Int) (x12_7 : Int), v11 = .int .i64 x11_7 ∧ v12 = .int .i64 x12_7 ∧ Aside0 (forecourtref09_CheckMix.l5 kq l1 x9_5 x10_6 x11_7 x12_7 a0_0 l0_1 = some r) ∧ Aside0 (kq ≤ k6) ∧ Aside0 (w'.heap[gb348]? = some (.cells #[.int .i64 a0_0, (.slice (some ad358) l0_1.length c0_1)] 39 (0, 0))) ∧ Aside0 (Below w.heap.size w w'))
  case atStart => exact ⟨(0), (0), b5_, b5_, H', ⟨Nat.le_refl _⟩, ⟨b15_⟩, ⟨b1_⟩⟩
  clear H'
  try clear c1
  try clear c2
  try clear p2
  try clear c3
  try clear p3
  try clear q3
  try clear hx3
  try clear c4
  try clear c4b0
  try clear c4b1
  try clear p6
  try clear c9
  try clear c9b0
  try clear c9b1
  try clear c10
  try clear c11
  try clear c11b0
  try clear c12
  try clear c12b0
  try clear c13
  try clear c13b0
  try clear c15
  try clear c15b0
  try clear c18
  try clear c18b0
  try clear c19
  try clear c19b0
  try clear c21
  try clear c21b0
  try clear c21b1
  try clear c29
  try clear c29b0
  try clear c30
  try clear c30b0
  try clear c31
  try clear c31b0
  try clear c31b1
  try clear c33
  try clear c33b0
  try clear c35
  try clear c35b0
  try clear p35
  try clear q35
  try clear hx35
  try clear c36
  try clear c36b0
  try clear c37
  try clear c37b0
  try clear hcz32_0
  try clear hcz32_1
  try clear hcz34_0
  try clear hcz34_1
  try clear hcz38_0
  try clear hcz38_1
  try clear hcz7_0
  try clear hcz7_1
  try clear hfz32_0
  try clear hfz32_1
  try clear hfz34_0
  try clear hfz34_1
  try clear hfz38_0
  try clear hfz38_1
  try clear hfz7_0
  try clear hfz7_1
  try clear hx351_0
  try clear hx351_1
  try clear hx352_0
  try clear hx352_1
  try clear hx353_0
  try clear hx353_1
  try clear hx355_0
  try clear hx355_1
  try clear hx357_0
  try clear hx357_1
  try clear hx358_0
  try clear p2
  try clear p3
  try clear p351
  try clear p352
  try clear p353
  try clear p355
  try clear p357
  try clear p358
  try clear p6
  try clear q3
  try clear q351
  try clear q352
  try clear q353
  try clear q355
  try clear q357
  try clear q358
  obtain ⟨x11_7, x12_7, rfl, rfl, HA, HK7, BK348, HB⟩ := hrel
  cases gk with
  | zero => exact absurd HA.out (by simp [forecourtref09_CheckMix.l5])
  | succ k7 => ?_
  have H := HA.out
  clear HA
  simp only [forecourtref09_CheckMix.l5] at H
  by_cases c39 : x12_7 < (l1.length : Int)
  rotate_left
  · rw [if_neg c39] at H
    have c39b0 : decide (x12_7 < (l1.length : Int)) = false := decide_eq_false c39
    clear c39
    by_cases c46 : 0 ≤ x9_5
    rotate_left
    · rw [if_neg c46] at H
      exact absurd H (by simp)
    rw [if_pos c46] at H
    have c46b0 : decide (0 ≤ x9_5) = true := decide_eq_true c46
    clear c46
    by_cases c47 : x9_5 < (l0_1.length : Int)
    rotate_left
    · rw [if_neg c47] at H
      exact absurd H (by simp)
    rw [if_pos c47] at H
    have c47b0 : decide (x9_5 < (l0_1.length : Int)) = true := decide_eq_true c47
    clear c47
    by_cases c48 : 0 ≤ x10_6
    rotate_left
    · rw [if_neg c48] at H
      exact absurd H (by simp)
    rw [if_pos c48] at H
    have c48b0 : decide (0 ≤ x10_6) = true := decide_eq_true c48
    clear c48
    by_cases c49 : x10_6 < ((rd_L2 l0_1 x9_5).length : Int)
    rotate_left
    · rw [if_neg c49] at H
      exact absurd H (by simp)
    rw [if_pos c49] at H
    have c49b0 : decide (x10_6 < ((rd_L2 l0_1 x9_5).length : Int)) = true := decide_eq_true c49
    clear c49
    by_cases c50 : x11_7 = (rd (rd_L2 l0_1 x9_5) x10_6)
    rotate_left
    · rw [if_neg c50] at H
      have c50b0 : (x11_7 == (rd (rd_L2 l0_1 x9_5) x10_6)) = false := beq_eq_false_iff_ne.mpr c50
      have c50b1 : (x11_7 != (rd (rd_L2 l0_1 x9_5) x10_6)) = true := bne_iff_ne.mpr c50
      obtain rfl := Option.some.inj H
      obtain ⟨hcz52_0, hcz52_1, hfz52_0, hfz52_1⟩ := cz2_ BK348.out
      have p363 : 0 ≤ (x9_5 : Int) := of_decide_eq_true b2_
      have q363 : x9_5 < (l0_1.length : Int) := of_decide_eq_true b2_
      obtain ⟨ad363, A363_0, c363_0, e363, hx363_0, hl363_0, hi363_0⟩ := at_L2 HR0_1.out x9_5 p363 q363
      obtain rfl : ad358 = ad363 := (by injection e363)
      replace hx363_0 := (HB.out.cell (World.block_lt_of_cell? w _ hx363_0)).trans hx363_0
      have HR363_0 := Aside0.mk hi363_0
      have HC363_0 := Aside0.mk hl363_0
      clear hi363_0 hl363_0
      replace p363 := eq_true p363
      replace q363 := eq_true q363
      have p364 : 0 ≤ (x10_6 : Int) := of_decide_eq_true b2_
      have q364 : x10_6 < ((rd_L2 l0_1 x9_5).length : Int) := of_decide_eq_true b2_
      obtain ⟨ad364, e364, hx364_0⟩ := Kd.at_int HR363_0.out x10_6 p364 q364
      cases e364
      replace hx364_0 := (HB.out.cell (World.block_lt_of_cell? w _ hx364_0)).trans hx364_0
      replace p364 := eq_true p364
      replace q364 := eq_true q364
      go_wp2
      go_ret
      exact ⟨b4_, b1_⟩
    rw [if_pos c50] at H
    have c50b0 : (x11_7 == (rd (rd_L2 l0_1 x9_5) x10_6)) = true := beq_iff_eq.mpr c50
    have c50b1 : (x11_7 != (rd (rd_L2 l0_1 x9_5) x10_6)) = false := bne_eq_false_iff_eq.mpr c50
    clear c50
    have H' := Aside0.mk H
    clear H
    obtain ⟨hcz51_0, hcz51_1, hfz51_0, hfz51_1⟩ := cz2_ BK348.out
    have p363 : 0 ≤ (x9_5 : Int) := of_decide_eq_true b2_
    have q363 : x9_5 < (l0_1.length : Int) := of_decide_eq_true b2_
    obtain ⟨ad363, A363_0, c363_0, e363, hx363_0, hl363_0, hi363_0⟩ := at_L2 HR0_1.out x9_5 p363 q363
    obtain rfl : ad358 = ad363 := (by injection e363)
    replace hx363_0 := (HB.out.cell (World.block_lt_of_cell? w _ hx363_0)).trans hx363_0
    have HR363_0 := Aside0.mk hi363_0
    have HC363_0 := Aside0.mk hl363_0
    clear hi363_0 hl363_0
    replace p363 := eq_true p363
    replace q363 := eq_true q363
    have p364 : 0 ≤ (x10_6 : Int) := of_decide_eq_true b2_
    have q364 : x10_6 < ((rd_L2 l0_1 x9_5).length : Int) := of_decide_eq_true b2_
    obtain ⟨ad364, e364, hx364_0⟩ := Kd.at_int HR363_0.out x10_6 p364 q364
    cases e364
    replace hx364_0 := (HB.out.cell (World.block_lt_of_cell? w _ hx364_0)).trans hx364_0
    replace p364 := eq_true p364
    replace q364 := eq_true q364
    go_wp2
    go_roundg k7
    case measure => have := HJ4.out; have := HK2.out; have := HK3.out; have := HK4.out; have := HK5.out; have := HK6.out; have := HK7.out; omega
    case rel => exact ⟨(wrap64 (x10_6 + 1)), b5_, H', ⟨(by have := HJ4.out; have := HK2.out; have := HK3.out; have := HK4.out; have := HK5.out; have := HK6.out; have := HK7.out; omega)⟩, ⟨b15_⟩, ⟨b1_⟩⟩
  rw [if_pos c39] at H
  have c39b0 : decide (x12_7 < (l1.length : Int)) = true := decide_eq_true c39
  clear c39
  by_cases c40 : 0 ≤ x12_7
  rotate_left
  · rw [if_neg c40] at H
    exact absurd H (by simp)
  rw [if_pos c40] at H
  have c40b0 : decide (0 ≤ x12_7) = true := decide_eq_true c40
  clear c40
  by_cases c41 : 0 ≤ x9_5
  rotate_left
  · rw [if_neg c41] at H
    exact absurd H (by simp)
  rw [if_pos c41] at H
  have c41b0 : decide (0 ≤ x9_5) = true := decide_eq_true c41
  clear c41
  by_cases c42 : x9_5 < (((rd_T71 l1 x12_7).f1).length : Int)
  rotate_left
  · rw [if_neg c42] at H
    exact absurd H (by simp)
  rw [if_pos c42] at H
  have c42b0 : decide (x9_5 < (((rd_T71 l1 x12_7).f1).length : Int)) = true := decide_eq_true c42
  clear c42
  by_cases c43 : 0 ≤ x10_6
  rotate_left
  · rw [if_neg c43] at H
    exact absurd H (by simp)
  rw [if_pos c43] at H
  have c43b0 : decide (0 ≤ x10_6) = true := decide_eq_true c43
  clear c43
  by_cases c44 : x10_6 < ((rd_L2 ((rd_T71 l1 x12_7).f1) x9_5).length : Int)
  rotate_left
  · rw [if_neg c44] at H
    exact absurd H (by simp)
  rw [if_pos c44] at H
  have c44b0 : decide (x10_6 < ((rd_L2 ((rd_T71 l1 x12_7).f1) x9_5).length : Int)) = true := decide_eq_true c44
  clear c44
  have H' := Aside0.mk H
  clear H
  try go_wp2
  replace BK348 := Aside0.mk (blk_drew BK348.out)
  replace HB := Aside0.mk (below_drew1 HB.out)
  have p359 : 0 ≤ (x12_7 : Int) := of_decide_eq_true b2_
  have q359 : x12_7 < (l1.length : Int) := of_decide_eq_true b2_
  obtain ⟨ad359, A359_1, c359_1, e359, hx359_0, hx359_1, hl359_1, hi359_1⟩ := at_T71 HR1.out x12_7 p359 q359
  have hw359_1 := hx359_1
  have hw359_0 := hx359_0
  cases e359
  replace hx359_0 := (HB.out.cell (World.block_lt_of_cell? w _ hx359_0)).trans hx359_0
  replace hx359_1 := (HB.out.cell (World.block_lt_of_cell? w _ hx359_1)).trans hx359_1
  have HR359_1 := Aside0.mk hi359_1
  have HC359_1 := Aside0.mk hl359_1
  clear hi359_1 hl359_1
  replace p359 := eq_true p359
  replace q359 := eq_true q359
  have p360 : 0 ≤ (x12_7 : Int) := of_decide_eq_true b2_
  have q360 : x12_7 < (l1.length : Int) := of_decide_eq_true b2_
  obtain ⟨ad360, A360_1, c360_1, e360, hx360_0, hx360_1, hl360_1, hi360_1⟩ := at_T71 HR1.out x12_7 p360 q360
  have hw360_1 := hx360_1
  have hw360_0 := hx360_0
  obtain rfl : ad359 = ad360 := (by injection e360)
  replace hx360_0 := (HB.out.cell (World.block_lt_of_cell? w _ hx360_0)).trans hx360_0
  replace hx360_1 := (HB.out.cell (World.block_lt_of_cell? w _ hx360_1)).trans hx360_1
  have HR360_1 := Aside0.mk hi360_1
  have HC360_1 := Aside0.mk hl360_1
  clear hi360_1 hl360_1
  replace p360 := eq_true p360
  replace q360 := eq_true q360
  have ea_ := Option.some.inj (hx359_1.symm.trans hx360_1)
  injection ea_ with ea_ en_ ec_
  subst ea_
  subst ec_
  clear en_
  have p361 : 0 ≤ (x9_5 : Int) := of_decide_eq_true b2_
  have q361 : x9_5 < (((rd_T71 l1 x12_7).f1).length : Int) := of_decide_eq_true b2_
  obtain ⟨ad361, A361_0, c361_0, e361, hx361_0, hl361_0, hi361_0⟩ := at_L2 HR360_1.out x9_5 p361 q361
  have hw361_0 := hx361_0
  cases e361
  replace hx361_0 := (HB.out.cell (World.block_lt_of_cell? w _ hx361_0)).trans hx361_0
  have HR361_0 := Aside0.mk hi361_0
  have HC361_0 := Aside0.mk hl361_0
  clear hi361_0 hl361_0
  replace p361 := eq_true p361
  replace q361 := eq_true q361
  have p362 : 0 ≤ (x10_6 : Int) := of_decide_eq_true b2_
  have q362 : x10_6 < ((rd_L2 ((rd_T71 l1 x12_7).f1) x9_5).length : Int) := of_decide_eq_true b2_
  obtain ⟨ad362, e362, hx362_0⟩ := Kd.at_int HR361_0.out x10_6 p362 q362
  have hw362_0 := hx362_0
  cases e362
  replace hx362_0 := (HB.out.cell (World.block_lt_of_cell? w _ hx362_0)).trans hx362_0
  replace p362 := eq_true p362
  replace q362 := eq_true q362
  refine start_ (n := 20) (S := fun w' => w'.cell? (ad359.add ((x12_7).toNat * 2)) = some (.int .i64 ((rd_T71 l1 x12_7).f0)) ∧ w'.cell? ⟨(ad359.add ((x12_7).toNat * 2)).block, (ad359.add ((x12_7).toNat * 2)).off + 1, none⟩ = some (.slice (some ad361) ((rd_T71 l1 x12_7).f1).length c359_1) ∧ w'.cell? (ad359.add ((x12_7).toNat * 2)) = some (.int .i64 ((rd_T71 l1 x12_7).f0)) ∧ w'.cell? ⟨(ad359.add ((x12_7).toNat * 2)).block, (ad359.add ((x12_7).toNat * 2)).off + 1, none⟩ = some (.slice (some ad361) ((rd_T71 l1 x12_7).f1).length c359_1) ∧ w'.cell? (ad361.add (x9_5).toNat) = some (.slice (some ad362) (rd_L2 ((rd_T71 l1 x12_7).f1) x9_5).length c361_0) ∧ w'.cell? (ad362.add (x10_6).toNat) = some (.int .i64 (rd (rd_L2 ((rd_T71 l1 x12_7).f1) x9_5) x10_6))) (ds := []) #[false, false, false, false, false, false, false, false, false, false, false, false, false, false, false, false, false, false, false, false] (by kernel_rfl) rfl rfl ⟨((HB.out.cell (World.block_lt_of_cell? w _ hw359_0)).trans hw359_0), ((HB.out.cell (World.block_lt_of_cell? w _ hw359_1)).trans hw359_1), ((HB.out.cell (World.block_lt_of_cell? w _ hw360_0)).trans hw360_0), ((HB.out.cell (World.block_lt_of_cell? w _ hw360_1)).trans hw360_1), ((HB.out.cell (World.block_lt_of_cell? w _ hw361_0)).trans hw361_0), ((HB.out.cell (World.block_lt_of_cell? w _ hw362_0)).trans hw362_0)⟩ (fun hHeld => ?_); refine with_tabW forecourtref09_CheckMix.tab32 forecourtref09_CheckMix.bits32 (fun HT_ HW_ => ?_)
  generalize wr.drew = w45 at BK348 HB HR359_1 HR360_1 HR361_0 hx359_0 hx359_1 hx360_0 hx360_1 hx361_0 hx362_0 hHeld ⊢
  refine pA_ 0 (some 109) 20 1 ?_
  refine pA_ 1 (some 110) 20 3 ?_
  refine pA_ 2 (some 111) 20 7 ?_
  refine pA_ 3 (some 112) 20 15 ?_
  refine pA_ 4 (some 113) 20 31 ?_
  refine pA_ 6 (some 115) 20 95 ?_
  refine pA_ 7 (some 116) 20 223 ?_
  refine pA_ 8 (some 117) 20 479 ?_
  refine pA_ 9 (some 118) 20 991 ?_
  refine pA_ 11 (some 120) 20 3039 ?_
  refine pA_ 14 (some 123) 20 19423 ?_
  refine tJ_ 5 (some 114) 20 19455 ?_
  refine tJ_ 10 (some 119) 20 20479 ?_
  refine pA_ 12 (some 121) 20 24575 ?_
  refine tJ_ 13 (some 122) 20 32767 ?_
  refine pA_ 15 (some 124) 20 65535 ?_
  refine tJ_ 16 (some 125) 20 131071 ?_
  refine pA_ 17 (some 126) 20 262143 ?_
  refine pA_ 18 (some 127) 20 524287 ?_
  refine pA_ 19 (some 11) 20 1048575 ?_
  refine dA_ ?_
  try go_wp2
  go_roundg k7
  case measure => have := HJ4.out; have := HK2.out; have := HK3.out; have := HK4.out; have := HK5.out; have := HK6.out; have := HK7.out; omega
  case rel => exact ⟨(wrap64 (x11_7 + (wrap64 (((rd_T71 l1 x12_7).f0) * (rd (rd_L2 ((rd_T71 l1 x12_7).f1) x9_5) x10_6))))), (wrap64 (x12_7 + 1)), b5_, b5_, H', ⟨(by have := HJ4.out; have := HK2.out; have := HK3.out; have := HK4.out; have := HK5.out; have := HK6.out; have := HK7.out; omega)⟩, ⟨b15_⟩, ⟨b1_⟩⟩

end Go.Proofs.Ytcgdbjojjpoegaa.P

namespace Go.Proofs.Ytcgdbjojjpoegaa.P
open Go.RowKit Go.Proofs.YtcgdbjojjpoegaaW.PrintWords Go.Proofs.YtcgdbjojjpoegaaW.PrintLast Go.Proofs.YtcgdbjojjpoegaaW.PrintMore
attribute [local go_sem] max2_int min2_int max_two min_two max_three min_three max_four min_four   -- for this text's walks alone
set_option linter.unusedVariables false
set_option linter.unusedSimpArgs false

/-! ### forecourtlaw09_same: function 50 -/
mutual
def forecourtlaw09_same.l0 : Nat → List (List Int) → List (List Int) → Int → Option (Bool)
  | 0, _, _, _ => none
  | k + 1, x0, x1, x5 => if x5 < (x0.length : Int) then (if 0 ≤ x5 then (if x5 < (x1.length : Int) then (if ((rd_L2 x0 x5).length : Int) = ((rd_L2 x1 x5).length : Int) then (forecourtlaw09_same.l1 k x0 x1 x5 0) else (some false)) else (none)) else (none)) else (some true)
def forecourtlaw09_same.l1 : Nat → List (List Int) → List (List Int) → Int → Int → Option (Bool)
  | 0, _, _, _, _ => none
  | k + 1, x0, x1, x5, x6 => if 0 ≤ x5 then (if x5 < (x0.length : Int) then (if x6 < ((rd_L2 x0 x5).length : Int) then (if 0 ≤ x6 then (if x5 < (x1.length : Int) then (if x6 < ((rd_L2 x1 x5).length : Int) then (if (rd (rd_L2 x0 x5) x6) = (rd (rd_L2 x1 x5) x6) then (forecourtlaw09_same.l1 k x0 x1 x5 (wrap64 (x6 + 1))) else (some false)) else (none)) else (none)) else (none)) else (forecourtlaw09_same.l0 k x0 x1 (wrap64 (x5 + 1)))) else (none)) else (none)
end
def forecourtlaw09_same.f (k : Nat) (l0 : List (List Int)) (l1 : List (List Int)) : Option (Bool) := if (l0.length : Int) = (l1.length : Int) then (forecourtlaw09_same.l0 k l0 l1 0) else (some false)
set_option maxHeartbeats 8000000 in
set_option maxRecDepth 100000 in
theorem forecourtlaw09_same.calls (k : Nat) (A0 : Option Addr) (c0 : Nat) (l0 : List (List Int)) (A1 : Option Addr) (c1 : Nat) (l1 : List (List Int)) (r : Bool) (w : World) (hr0 : Kd.C (Kd.slice 2 (Kd.int .i64)) w A0 l0.length l0) (hc0 : l0.length ≤ c0) (hr1 : Kd.C (Kd.slice 2 (Kd.int .i64)) w A1 l1.length l1) (hc1 : l1.length ≤ c1) (h : forecourtlaw09_same.f k l0 l1 = some r) :
    Calls Try.prog 50 #[.slice A0 l0.length c0, .slice A1 l1.length c1] w fun e w' => e = .returned (.bool r) ∧ Drawn0 w w' := by
  have HR0 := Aside0.mk hr0
  have HC0 := Aside0.mk hc0
  clear hr0 hc0
  have HR1 := Aside0.mk hr1
  have HC1 := Aside0.mk hc1
  clear hr1 hc1
  have H : (if (l0.length : Int) = (l1.length : Int) then (forecourtlaw09_same.l0 k l0 l1 0) else (some false)) = some r := h
  clear h
  by_cases c3 : (l0.length : Int) = (l1.length : Int)
  rotate_left
  · rw [if_neg c3] at H
    have c3b0 : ((l0.length : Int) == (l1.length : Int)) = false := beq_eq_false_iff_ne.mpr c3
    have c3b1 : ((l0.length : Int) != (l1.length : Int)) = true := bne_iff_ne.mpr c3
    have c3b2 : (l0.length == l1.length) = false := by first | simpa using c3 | (simp at c3 ⊢; omega)
    obtain rfl := Option.some.inj H
    go_enter Try.func50, Try.ntmps50
    go_wp2
    repeat (go_quiet (fail); try go_wp2)
    go_ret
    exact ⟨b5_, b8_⟩
  rw [if_pos c3] at H
  have c3b0 : ((l0.length : Int) == (l1.length : Int)) = true := beq_iff_eq.mpr c3
  have c3b1 : ((l0.length : Int) != (l1.length : Int)) = false := bne_eq_false_iff_eq.mpr c3
  have c3b2 : (l0.length == l1.length) = true := by first | simpa using c3 | (simp at c3 ⊢; omega)
  clear c3
  have H' := Aside0.mk H
  clear H
  go_enter Try.func50, Try.ntmps50
  go_wp2
  repeat (go_quiet (fail); try go_wp2)
  go_loopg [5] k (fun kq v5 w' => ∃ (x5_1 : Int), v5 = .int .i64 x5_1 ∧ Aside0 (forecourtlaw09_same.l0 kq l0 l1 x5_1 = some r) ∧ Aside0 (kq ≤ k) ∧ Drawn0 w w')
  case atStart => exact ⟨(0), b5_, H', ⟨Nat.le_refl _⟩, b8_⟩
  clear H'
  try clear c1
  try clear p2
  try clear c3
  try clear c3b0
  try clear c3b1
  try clear c3b2
  obtain ⟨x5_1, rfl, HA, HK1, ⟨m1, rfl⟩⟩ := hrel
  cases gk with
  | zero => exact absurd HA.out (by simp [forecourtlaw09_same.l0])
  | succ k1 => ?_
  have H := HA.out
  clear HA
  simp only [forecourtlaw09_same.l0] at H
  by_cases c4 : x5_1 < (l0.length : Int)
  rotate_left
  · rw [if_neg c4] at H
    have c4b0 : decide (x5_1 < (l0.length : Int)) = false := decide_eq_false c4
    clear c4
    obtain rfl := Option.some.inj H
    go_wp2
    repeat (go_quiet (fail); try go_wp2)
    go_ret
    exact ⟨b5_, b8_⟩
  rw [if_pos c4] at H
  have c4b0 : decide (x5_1 < (l0.length : Int)) = true := decide_eq_true c4
  clear c4
  by_cases c5 : 0 ≤ x5_1
  rotate_left
  · rw [if_neg c5] at H
    exact absurd H (by simp)
  rw [if_pos c5] at H
  have c5b0 : decide (0 ≤ x5_1) = true := decide_eq_true c5
  clear c5
  by_cases c6 : x5_1 < (l1.length : Int)
  rotate_left
  · rw [if_neg c6] at H
    exact absurd H (by simp)
  rw [if_pos c6] at H
  have c6b0 : decide (x5_1 < (l1.length : Int)) = true := decide_eq_true c6
  clear c6
  by_cases c7 : ((rd_L2 l0 x5_1).length : Int) = ((rd_L2 l1 x5_1).length : Int)
  rotate_left
  · rw [if_neg c7] at H
    have c7b0 : (((rd_L2 l0 x5_1).length : Int) == ((rd_L2 l1 x5_1).length : Int)) = false := beq_eq_false_iff_ne.mpr c7
    have c7b1 : (((rd_L2 l0 x5_1).length : Int) != ((rd_L2 l1 x5_1).length : Int)) = true := bne_iff_ne.mpr c7
    have c7b2 : ((rd_L2 l0 x5_1).length == (rd_L2 l1 x5_1).length) = false := by first | simpa using c7 | (simp at c7 ⊢; omega)
    obtain rfl := Option.some.inj H
    have p374 : 0 ≤ (x5_1 : Int) := of_decide_eq_true b2_
    have q374 : x5_1 < (l0.length : Int) := of_decide_eq_true b2_
    obtain ⟨ad374, A374_0, c374_0, e374, hx374_0, hl374_0, hi374_0⟩ := at_L2 HR0.out x5_1 p374 q374
    cases e374
    have HR374_0 := Aside0.mk hi374_0
    have HC374_0 := Aside0.mk hl374_0
    clear hi374_0 hl374_0
    replace p374 := eq_true p374
    replace q374 := eq_true q374
    have p375 : 0 ≤ (x5_1 : Int) := of_decide_eq_true b2_
    have q375 : x5_1 < (l1.length : Int) := of_decide_eq_true b2_
    obtain ⟨ad375, A375_0, c375_0, e375, hx375_0, hl375_0, hi375_0⟩ := at_L2 HR1.out x5_1 p375 q375
    cases e375
    have HR375_0 := Aside0.mk hi375_0
    have HC375_0 := Aside0.mk hl375_0
    clear hi375_0 hl375_0
    replace p375 := eq_true p375
    replace q375 := eq_true q375
    go_wp2
    repeat (go_quiet (fail); try go_wp2)
    go_ret
    exact ⟨b5_, b8_⟩
  rw [if_pos c7] at H
  have c7b0 : (((rd_L2 l0 x5_1).length : Int) == ((rd_L2 l1 x5_1).length : Int)) = true := beq_iff_eq.mpr c7
  have c7b1 : (((rd_L2 l0 x5_1).length : Int) != ((rd_L2 l1 x5_1).length : Int)) = false := bne_eq_false_iff_eq.mpr c7
  have c7b2 : ((rd_L2 l0 x5_1).length == (rd_L2 l1 x5_1).length) = true := by first | simpa using c7 | (simp at c7 ⊢; omega)
  clear c7
  have H' := Aside0.mk H
  clear H
  have p374 : 0 ≤ (x5_1 : Int) := of_decide_eq_true b2_
  have q374 : x5_1 < (l0.length : Int) := of_decide_eq_true b2_
  obtain ⟨ad374, A374_0, c374_0, e374, hx374_0, hl374_0, hi374_0⟩ := at_L2 HR0.out x5_1 p374 q374
  cases e374
  have HR374_0 := Aside0.mk hi374_0
  have HC374_0 := Aside0.mk hl374_0
  clear hi374_0 hl374_0
  replace p374 := eq_true p374
  replace q374 := eq_true q374
  have p375 : 0 ≤ (x5_1 : Int) := of_decide_eq_true b2_
  have q375 : x5_1 < (l1.length : Int) := of_decide_eq_true b2_
  obtain ⟨ad375, A375_0, c375_0, e375, hx375_0, hl375_0, hi375_0⟩ := at_L2 HR1.out x5_1 p375 q375
  cases e375
  have HR375_0 := Aside0.mk hi375_0
  have HC375_0 := Aside0.mk hl375_0
  clear hi375_0 hl375_0
  replace p375 := eq_true p375
  replace q375 := eq_true q375
  go_wp2
  repeat (go_quiet (fail); try go_wp2)
  go_loopg [6] k1 (fun kq v6 w' => ∃ (x6_2 : Int), v6 = .int .i64 x6_2 ∧ Aside0 (forecourtlaw09_same.l1 kq l0 l1 x5_1 x6_2 = some r) ∧ Aside0 (kq ≤ k1) ∧ Drawn0 w w')
  case atStart => exact ⟨(0), b5_, H', ⟨Nat.le_refl _⟩, b8_⟩
  clear H'
  try clear c1
  try clear p2
  try clear c3
  try clear c3b0
  try clear c3b1
  try clear c3b2
  try clear p3
  try clear q3
  try clear hx3
  try clear c4
  try clear c4b0
  try clear c5
  try clear c5b0
  try clear c6
  try clear c6b0
  try clear c7
  try clear c7b0
  try clear c7b1
  try clear c7b2
  try clear hx374_0
  try clear hx375_0
  try clear p2
  try clear p374
  try clear p375
  try clear q374
  try clear q375
  obtain ⟨x6_2, rfl, HA, HK2, ⟨m2, rfl⟩⟩ := hrel
  cases gk with
  | zero => exact absurd HA.out (by simp [forecourtlaw09_same.l1])
  | succ k2 => ?_
  have H := HA.out
  clear HA
  simp only [forecourtlaw09_same.l1] at H
  by_cases c8 : 0 ≤ x5_1
  rotate_left
  · rw [if_neg c8] at H
    exact absurd H (by simp)
  rw [if_pos c8] at H
  have c8b0 : decide (0 ≤ x5_1) = true := decide_eq_true c8
  clear c8
  by_cases c9 : x5_1 < (l0.length : Int)
  rotate_left
  · rw [if_neg c9] at H
    exact absurd H (by simp)
  rw [if_pos c9] at H
  have c9b0 : decide (x5_1 < (l0.length : Int)) = true := decide_eq_true c9
  clear c9
  by_cases c10 : x6_2 < ((rd_L2 l0 x5_1).length : Int)
  rotate_left
  · rw [if_neg c10] at H
    have c10b0 : decide (x6_2 < ((rd_L2 l0 x5_1).length : Int)) = false := decide_eq_false c10
    clear c10
    have H' := Aside0.mk H
    clear H
    have p376 : 0 ≤ (x5_1 : Int) := of_decide_eq_true b2_
    have q376 : x5_1 < (l0.length : Int) := of_decide_eq_true b2_
    obtain ⟨ad376, A376_0, c376_0, e376, hx376_0, hl376_0, hi376_0⟩ := at_L2 HR0.out x5_1 p376 q376
    obtain rfl : ad374 = ad376 := (by injection e376)
    have HR376_0 := Aside0.mk hi376_0
    have HC376_0 := Aside0.mk hl376_0
    clear hi376_0 hl376_0
    replace p376 := eq_true p376
    replace q376 := eq_true q376
    go_wp2
    repeat (go_quiet (fail); try go_wp2)
    go_roundg k2
    case measure => have := HK1.out; have := HK2.out; omega
    case rel => exact ⟨(wrap64 (x5_1 + 1)), b5_, H', ⟨(by have := HK1.out; have := HK2.out; omega)⟩, b8_⟩
  rw [if_pos c10] at H
  have c10b0 : decide (x6_2 < ((rd_L2 l0 x5_1).length : Int)) = true := decide_eq_true c10
  clear c10
  by_cases c11 : 0 ≤ x6_2
  rotate_left
  · rw [if_neg c11] at H
    exact absurd H (by simp)
  rw [if_pos c11] at H
  have c11b0 : decide (0 ≤ x6_2) = true := decide_eq_true c11
  clear c11
  by_cases c12 : x5_1 < (l1.length : Int)
  rotate_left
  · rw [if_neg c12] at H
    exact absurd H (by simp)
  rw [if_pos c12] at H
  have c12b0 : decide (x5_1 < (l1.length : Int)) = true := decide_eq_true c12
  clear c12
  by_cases c13 : x6_2 < ((rd_L2 l1 x5_1).length : Int)
  rotate_left
  · rw [if_neg c13] at H
    exact absurd H (by simp)
  rw [if_pos c13] at H
  have c13b0 : decide (x6_2 < ((rd_L2 l1 x5_1).length : Int)) = true := decide_eq_true c13
  clear c13
  by_cases c14 : (rd (rd_L2 l0 x5_1) x6_2) = (rd (rd_L2 l1 x5_1) x6_2)
  rotate_left
  · rw [if_neg c14] at H
    have c14b0 : ((rd (rd_L2 l0 x5_1) x6_2) == (rd (rd_L2 l1 x5_1) x6_2)) = false := beq_eq_false_iff_ne.mpr c14
    have c14b1 : ((rd (rd_L2 l0 x5_1) x6_2) != (rd (rd_L2 l1 x5_1) x6_2)) = true := bne_iff_ne.mpr c14
    obtain rfl := Option.some.inj H
    have p376 : 0 ≤ (x5_1 : Int) := of_decide_eq_true b2_
    have q376 : x5_1 < (l0.length : Int) := of_decide_eq_true b2_
    obtain ⟨ad376, A376_0, c376_0, e376, hx376_0, hl376_0, hi376_0⟩ := at_L2 HR0.out x5_1 p376 q376
    obtain rfl : ad374 = ad376 := (by injection e376)
    have HR376_0 := Aside0.mk hi376_0
    have HC376_0 := Aside0.mk hl376_0
    clear hi376_0 hl376_0
    replace p376 := eq_true p376
    replace q376 := eq_true q376
    have p377 : 0 ≤ (x5_1 : Int) := of_decide_eq_true b2_
    have q377 : x5_1 < (l0.length : Int) := of_decide_eq_true b2_
    obtain ⟨ad377, A377_0, c377_0, e377, hx377_0, hl377_0, hi377_0⟩ := at_L2 HR0.out x5_1 p377 q377
    obtain rfl : ad374 = ad377 := (by injection e377)
    have HR377_0 := Aside0.mk hi377_0
    have HC377_0 := Aside0.mk hl377_0
    clear hi377_0 hl377_0
    replace p377 := eq_true p377
    replace q377 := eq_true q377
    have ea_ := Option.some.inj (hx376_0.symm.trans hx377_0)
    injection ea_ with ea_ en_ ec_
    subst ea_
    subst ec_
    clear en_
    have p378 : 0 ≤ (x6_2 : Int) := of_decide_eq_true b2_
    have q378 : x6_2 < ((rd_L2 l0 x5_1).length : Int) := of_decide_eq_true b2_
    obtain ⟨ad378, e378, hx378_0⟩ := Kd.at_int HR377_0.out x6_2 p378 q378
    cases e378
    replace p378 := eq_true p378
    replace q378 := eq_true q378
    have p379 : 0 ≤ (x5_1 : Int) := of_decide_eq_true b2_
    have q379 : x5_1 < (l1.length : Int) := of_decide_eq_true b2_
    obtain ⟨ad379, A379_0, c379_0, e379, hx379_0, hl379_0, hi379_0⟩ := at_L2 HR1.out x5_1 p379 q379
    obtain rfl : ad375 = ad379 := (by injection e379)
    have HR379_0 := Aside0.mk hi379_0
    have HC379_0 := Aside0.mk hl379_0
    clear hi379_0 hl379_0
    replace p379 := eq_true p379
    replace q379 := eq_true q379
    have p380 : 0 ≤ (x6_2 : Int) := of_decide_eq_true b2_
    have q380 : x6_2 < ((rd_L2 l1 x5_1).length : Int) := of_decide_eq_true b2_
    obtain ⟨ad380, e380, hx380_0⟩ := Kd.at_int HR379_0.out x6_2 p380 q380
    cases e380
    replace p380 := eq_true p380
    replace q380 := eq_true q380
    go_wp2
    repeat (go_quiet (fail); try go_wp2)
    go_ret
    exact ⟨b5_, b8_⟩
  rw [if_pos c14] at H
  have c14b0 : ((rd (rd_L2 l0 x5_1) x6_2) == (rd (rd_L2 l1 x5_1) x6_2)) = true := beq_iff_eq.mpr c14
  have c14b1 : ((rd (rd_L2 l0 x5_1) x6_2) != (rd (rd_L2 l1 x5_1) x6_2)) = false := bne_eq_false_iff_eq.mpr c14
  clear c14
  have H' := Aside0.mk H
  clear H
  have p376 : 0 ≤ (x5_1 : Int) := of_decide_eq_true b2_
  have q376 : x5_1 < (l0.length : Int) := of_decide_eq_true b2_
  obtain ⟨ad376, A376_0, c376_0, e376, hx376_0, hl376_0, hi376_0⟩ := at_L2 HR0.out x5_1 p376 q376
  obtain rfl : ad374 = ad376 := (by injection e376)
  have HR376_0 := Aside0.mk hi376_0
  have HC376_0 := Aside0.mk hl376_0
  clear hi376_0 hl376_0
  replace p376 := eq_true p376
  replace q376 := eq_true q376
  have p377 : 0 ≤ (x5_1 : Int) := of_decide_eq_true b2_
  have q377 : x5_1 < (l0.length : Int) := of_decide_eq_true b2_
  obtain ⟨ad377, A377_0, c377_0, e377, hx377_0, hl377_0, hi377_0⟩ := at_L2 HR0.out x5_1 p377 q377
  obtain rfl : ad374 = ad377 := (by injection e377)
  have HR377_0 := Aside0.mk hi377_0
  have HC377_0 := Aside0.mk hl377_0
  clear hi377_0 hl377_0
  replace p377 := eq_true p377
  replace q377 := eq_true q377
  have ea_ := Option.some.inj (hx376_0.symm.trans hx377_0)
  injection ea_ with ea_ en_ ec_
  subst ea_
  subst ec_
  clear en_
  have p378 : 0 ≤ (x6_2 : Int) := of_decide_eq_true b2_
  have q378 : x6_2 < ((rd_L2 l0 x5_1).length : Int) := of_decide_eq_true b2_
  obtain ⟨ad378, e378, hx378_0⟩ := Kd.at_int HR377_0.out x6_2 p378 q378
  cases e378
  replace p378 := eq_true p378
  replace q378 := eq_true q378
  have p379 : 0 ≤ (x5_1 : Int) := of_decide_eq_true b2_
  have q379 : x5_1 < (l1.length : Int) := of_decide_eq_true b2_
  obtain ⟨ad379, A379_0, c379_0, e379, hx379_0, hl379_0, hi379_0⟩ := at_L2 HR1.out x5_1 p379 q379
  obtain rfl : ad375 = ad379 := (by injection e379)
  have HR379_0 := Aside0.mk hi379_0
  have HC379_0 := Aside0.mk hl379_0
  clear hi379_0 hl379_0
  replace p379 := eq_true p379
  replace q379 := eq_true q379
  have p380 : 0 ≤ (x6_2 : Int) := of_decide_eq_true b2_
  have q380 : x6_2 < ((rd_L2 l1 x5_1).length : Int) := of_decide_eq_true b2_
  obtain ⟨ad380, e380, hx380_0⟩ := Kd.at_int HR379_0.out x6_2 p380 q380
  cases e380
  replace p380 := eq_true p380
  replace q380 := eq_true q380
  go_wp2
  repeat (go_quiet (fail); try go_wp2)
  go_roundg k2
  case measure => have := HK1.out; have := HK2.out; omega
  case rel => exact ⟨(wrap64 (x6_2 + 1)), b5_, H', ⟨(by have := HK1.out; have := HK2.out; omega)⟩, b8_⟩

end Go.Proofs.Ytcgdbjojjpoegaa.P

namespace Go.Proofs.Ytcgdbjojjpoegaa.P
open Go.RowKit Go.Shelf Go.Proofs.YtcgdbjojjpoegaaW.PrintWords Go.Proofs.YtcgdbjojjpoegaaW.PrintLast Go.Proofs.YtcgdbjojjpoegaaW.PrintMore Go.Proofs.YtcgdbjojjpoegaaM Go.Proofs.YtcgdbjojjpoegaaR
set_option linter.unusedVariables false
set_option linter.unusedSimpArgs false
set_option maxRecDepth 100000

def sg : List S54 := [⟨0, 180⟩, ⟨60, 170⟩, ⟨100, 185⟩]
def tb : List (List Int) := [[1, 2, 1], [3, 1, 0]]
def hg9 : List S54 := [⟨0, 180⟩, ⟨55, 170⟩, ⟨105, 185⟩]
def rd9 : List (List Int) := [[0, 0, 1], [1, 0, 0]]
def mx9 : List S71 := [⟨1, [[0, 0, 1], [1, 0, 0]]⟩, ⟨1, [[1, 0, 0], [0, 1, 0]]⟩, ⟨2, [[0, 1, 0], [1, 0, 0]]⟩]
theorem sort_is (l r : List Int) (hp : l.Perm r) (hs : r.Pairwise (· ≤ ·)) : l.mergeSort (fun x y => decide (x ≤ y)) = r := by
  have h1 : (l.mergeSort (fun x y => decide (x ≤ y))).Perm r := (List.mergeSort_perm l _).trans hp
  have h2 : (l.mergeSort (fun x y => decide (x ≤ y))).Pairwise (· ≤ ·) := by
    have := List.pairwise_mergeSort (le := fun (x y : Int) => decide (x ≤ y)) (fun a b c h1 h2 => by simp at *; omega) (fun a b => by simp; omega) l
    simpa using this
  exact h1.eq_of_pairwise (fun a b _ _ h1 h2 => Int.le_antisymm h1 h2) h2 hs
theorem ch5 : changesL (-5) 5 sg = [0, 55, 65, 95, 105] := by
  have : changesC (-5) 5 sg = [0, 55, 65, 95, 105] := by kernel_rfl
  unfold changesL
  rw [this, sort_is _ [0, 55, 65, 95, 105] (.refl _) (by decide)]
  have h9 : Lib.compact ([0, 55, 65, 95, 105] : List Int) = [0, 55, 65, 95, 105] := by kernel_rfl
  exact h9
theorem ch0 : changesL 0 0 sg = [0, 60, 100] := by
  have : changesC 0 0 sg = [0, 60, 60, 100, 100] := by kernel_rfl
  unfold changesL
  rw [this, sort_is _ [0, 60, 60, 100, 100] (.refl _) (by decide)]
  have h9 : Lib.compact ([0, 60, 60, 100, 100] : List Int) = [0, 60, 100] := by kernel_rfl
  exact h9
theorem mi5 : minutesL (-5) 5 sg sg = [0, 0, 55, 60, 65, 95, 100, 105] := by
  unfold minutesL
  rw [ch5]
  exact sort_is _ _ (by decide) (by decide)
theorem mi0 : minutesL 0 0 sg sg = [0, 0, 60, 60, 100, 100] := by
  unfold minutesL
  rw [ch0]
  exact sort_is _ _ (by decide) (by decide)
theorem y_sign : forecourtlaw09_Sign.f = some sg := by kernel_rfl
theorem y_table : forecourtlaw09_Table.f = some (4, tb) := by kernel_rfl
theorem y_rg (a b : Int) : forecourtlaw09_rg.f a b = some (a, b) := rfl
theorem y_pr (a b : Int) : forecourtlaw09_Price.f a b = some (a, b) := rfl
theorem y_price : pole_Price.f 100 sg 59 = some (180, 0) := by kernel_rfl
theorem y_fair : pole_Fair.f sg (-5) 5 104 = some (170, 0) := by kernel_rfl
theorem y_high : pole_Highest.f sg (-5) 5 = some (hg9, 0) := by
  unfold pole_Highest.f
  rw [ch5]
  have h9 : ((pole_checkClocks.f sg (-5) 5).bind fun e => if e = 0 then (highO sg (-5) 5 [0, 55, 65, 95, 105] []).bind fun out => some (out, 0) else some ([], e)) = some (hg9, (0 : Int)) := by kernel_rfl
  exact h9
theorem y_cheat : pole_Cheat.f sg sg (-5) 5 = some (55, 0) := by
  have h1 : signE sg = 0 := by kernel_rfl
  have h2 : pole_checkClocks.f sg (-5) 5 = some 0 := by kernel_rfl
  have h3 : ([0, 0, 55, 60, 65, 95, 100, 105] : List Int).all (fun m => (cheatO sg sg (-5) 5 m).isSome) = true := by kernel_rfl
  have h4 : cheatR sg sg (-5) 5 [0, 0, 55, 60, 65, 95, 100, 105] = (55, 0) := by kernel_rfl
  unfold pole_Cheat.f
  rw [mi5, if_pos h1, if_pos h1, h2, Option.bind_some, if_pos rfl, if_pos h3, h4]
theorem y_cheat0 : pole_Cheat.f sg sg 0 0 = some (0, 5) := by
  have h1 : signE sg = 0 := by kernel_rfl
  have h2 : pole_checkClocks.f sg 0 0 = some 0 := by kernel_rfl
  have h3 : ([0, 0, 60, 60, 100, 100] : List Int).all (fun m => (cheatO sg sg 0 0 m).isSome) = true := by kernel_rfl
  have h4 : cheatR sg sg 0 0 [0, 0, 60, 60, 100, 100] = (0, 5) := by kernel_rfl
  unfold pole_Cheat.f
  rw [mi0, if_pos h1, if_pos h1, h2, Option.bind_some, if_pos rfl, if_pos h3, h4]
theorem y_ro1 : pole_CheckRounding.f 4 tb [[0, 1, 0], [1, 0, 0]] = some 0 := by kernel_rfl
theorem y_ro2 : pole_CheckRounding.f 4 tb [[1, 1, 0], [0, 0, 0]] = some 16 := by kernel_rfl
theorem y_round : pole_Round.f 4 tb = some (rd9, 0) := by kernel_rfl
theorem y_f1 : pole_Force.f 4 tb 0 2 true = some (rd9, 0) := by kernel_rfl
theorem y_f2 : pole_Force.f 4 tb 1 2 true = some ([], 5) := by kernel_rfl
theorem y_mix : pole_Mix.f 4 tb = some (mx9, 0) := by kernel_rfl
theorem y_prices : forecourtlaw09_prices.f 100 hg9 hg9 = some true := by kernel_rfl
theorem y_ref : forecourtref09_CheckRounding.f 100 4 tb rd9 = some 0 := by kernel_rfl
theorem y_same : forecourtlaw09_same.f 100 rd9 rd9 = some true := by kernel_rfl
theorem y_refm : forecourtref09_CheckMix.f 100 4 tb mx9 = some 0 := by kernel_rfl
/-- Between the calls of Works. -/
structure YS (w W : World) (b : Nat) (A : Option Addr) (c : Nat) (A2 : Option Addr) (c2 : Nat) : Prop where
  t : Blk W b 39 #[.int .i64 4, .slice A2 2 c2]
  k : Blk W (b + 1) 24 #[.int .i64 (-5), .int .i64 5]
  S : Kd.C k54 W A sg.length sg
  hc : sg.length ≤ c
  T : Kd.C (Kd.slice 2 (Kd.int .i64)) W A2 tb.length tb
  hc2 : tb.length ≤ c2
  g : Below w.heap.size w W
theorem YS.below {w W W' : World} {b : Nat} {A : Option Addr} {c : Nat} {A2 : Option Addr} {c2 : Nat} (h : YS w W b A c A2 c2) (hb : Below W.heap.size W W') : YS w W' b A c A2 c2 :=
  ⟨h.t.below hb h.t.lt, h.k.below hb h.k.lt, Kd.C_below h.S hb, h.hc, Kd.C_below h.T hb, h.hc2, below_then h.g h.g.size hb⟩
/-- two lines of three numbers, written down -/
theorem lit2 (W : World) (x y : List Int) (cx cy : Array Value) (hx : cx = (x.map (Value.int .i64)).toArray) (hy : cy = (y.map (Value.int .i64)).toArray) (lx : x.length = 3) (ly : y.length = 3) :
    Kd.C (Kd.slice 2 (Kd.int .i64)) (((W.alloc (.cells cx 2)).alloc (.cells cy 2)).alloc (.cells #[.slice (some ⟨W.heap.size, 0, none⟩) 3 3, .slice (some ⟨W.heap.size + 1, 0, none⟩) 3 3] 48)) (some ⟨W.heap.size + 2, 0, none⟩) 2 [x, y] := by
  have r1 := row_lit W x 2 cx hx (by omega)
  have r2 := row_lit (W.alloc (.cells cx 2)) y 2 cy hy (by omega)
  have b3 := Blk.new ((W.alloc (.cells cx 2)).alloc (.cells cy 2)) #[.slice (some ⟨W.heap.size, 0, none⟩) 3 3, .slice (some ⟨W.heap.size + 1, 0, none⟩) 3 3] 48
  simp only [World.size_alloc, Nat.add_assoc, Nat.reduceAdd] at r2 b3
  have g2 := World.grownBy_alloc (W.alloc (.cells cx 2)) (.cells cy 2) none
  have g3 := World.grownBy_alloc ((W.alloc (.cells cx 2)).alloc (.cells cy 2)) (.cells #[.slice (some ⟨W.heap.size, 0, none⟩) 3 3, .slice (some ⟨W.heap.size + 1, 0, none⟩) 3 3] 48) none
  have r1' := ((r1.kept g2 (by simp)).kept g3 (by simp)).reads
  have r2' := (r2.kept g3 (by simp)).reads
  have e0 : (((W.alloc (.cells cx 2)).alloc (.cells cy 2)).alloc (.cells #[.slice (some ⟨W.heap.size, 0, none⟩) 3 3, .slice (some ⟨W.heap.size + 1, 0, none⟩) 3 3] 48)).cell? ⟨W.heap.size + 2, 0, none⟩ = some (.slice (some ⟨W.heap.size, 0, none⟩) 3 3) := b3.cell 0
  have e1 : (((W.alloc (.cells cx 2)).alloc (.cells cy 2)).alloc (.cells #[.slice (some ⟨W.heap.size, 0, none⟩) 3 3, .slice (some ⟨W.heap.size + 1, 0, none⟩) 3 3] 48)).cell? ⟨W.heap.size + 2, 1, none⟩ = some (.slice (some ⟨W.heap.size + 1, 0, none⟩) 3 3) := b3.cell 1
  refine ⟨rfl, (by decide), fun _ => ⟨_, rfl, fun j p hj => ?_⟩⟩
  match j with
  | 0 =>
    simp only [List.getElem?_cons_zero, Option.some.injEq] at hj
    subst hj
    refine ⟨[.slice (some ⟨W.heap.size, 0, none⟩) x.length 3], rfl, ⟨_, 3, rfl, (by omega), r1'⟩, fun i u hu => ?_⟩
    match i with
    | 0 => simp at hu; subst hu; rw [lx]; exact e0
    | i + 1 => simp at hu
  | 1 =>
    simp only [List.getElem?_cons_succ, List.getElem?_cons_zero, Option.some.injEq] at hj
    subst hj
    refine ⟨[.slice (some ⟨W.heap.size + 1, 0, none⟩) y.length 3], rfl, ⟨_, 3, rfl, (by omega), r2'⟩, fun i u hu => ?_⟩
    match i with
    | 0 => simp at hu; subst hu; rw [ly]; exact e1
    | i + 1 => simp at hu
  | j + 2 => simp at hj
theorem lit2_below (W : World) (o1 o2 o3 : Obj) {W' : World} (hb : Below (((W.alloc o1).alloc o2).alloc o3).heap.size (((W.alloc o1).alloc o2).alloc o3) W') : Below W.heap.size W W' := alloc_step (alloc_step (alloc_step hb) |>.mono (Nat.le_refl _)) 
/-- three prices, written down -/
theorem lit54 (W : World) : Kd.C k54 (W.alloc (.cells #[.int .i64 0, .int .i64 180, .int .i64 55, .int .i64 170, .int .i64 105, .int .i64 185] 54)) (some ⟨W.heap.size, 0, none⟩) 3 hg9 := by
  have B := Blk.new W #[.int .i64 0, .int .i64 180, .int .i64 55, .int .i64 170, .int .i64 105, .int .i64 185] 54
  refine ⟨rfl, (by decide), fun _ => ⟨_, rfl, fun j p hj => ?_⟩⟩
  have key : ∀ (j : Nat) (a b : Int), (#[.int .i64 0, .int .i64 180, .int .i64 55, .int .i64 170, .int .i64 105, .int .i64 185] : Array Value)[j * 2]? = some (.int .i64 a) → (#[.int .i64 0, .int .i64 180, .int .i64 55, .int .i64 170, .int .i64 105, .int .i64 185] : Array Value)[j * 2 + 1]? = some (.int .i64 b) →
      ∃ cs, cs.length = 2 ∧ k54.K (W.alloc (.cells #[.int .i64 0, .int .i64 180, .int .i64 55, .int .i64 170, .int .i64 105, .int .i64 185] 54)) ⟨a, b⟩ cs ∧ ∀ i u, cs[i]? = some u → (W.alloc (.cells #[.int .i64 0, .int .i64 180, .int .i64 55, .int .i64 170, .int .i64 105, .int .i64 185] 54)).cell? ((⟨W.heap.size, 0, none⟩ : Addr).add (j * 2 + i)) = some u := by
    intro j a b h1 h2
    refine ⟨[.int .i64 a, .int .i64 b], rfl, k54_mk _ _, fun i u hu => ?_⟩
    rw [Addr.add_lit, Nat.zero_add, B.cell]
    match i with
    | 0 => simp at hu; subst hu; exact h1
    | 1 => simp at hu; subst hu; exact h2
    | i + 2 => simp at hu
  match j with
  | 0 =>
    have hj' : p = ⟨0, 180⟩ := by simpa [hg9] using hj.symm
    subst hj'
    exact key 0 0 180 rfl rfl
  | 1 =>
    have hj' : p = ⟨55, 170⟩ := by simpa [hg9] using hj.symm
    subst hj'
    exact key 1 55 170 rfl rfl
  | 2 =>
    have hj' : p = ⟨105, 185⟩ := by simpa [hg9] using hj.symm
    subst hj'
    exact key 2 105 185 rfl rfl
  | j + 3 => simp [hg9] at hj
set_option maxHeartbeats 4000000 in
set_option maxRecDepth 100000 in
theorem works_calls (w : World) : Calls Try.prog 15 #[] w fun e w' => e = .returned (.bool true) ∧ Below w.heap.size w w' := by
  go_enter Try.func15, Try.ntmps15
  go_upto_region 2 with (first
    | (go_at_call 45; refine (forecourtlaw09_Sign.calls sg _ y_sign).mono ?_; rintro e w1 ⟨v1, rfl, ho, hb1⟩; obtain ⟨A, c, hv⟩ := Kd.R_slice ho; subst hv; have HO := Lib.hid (Kd.R_reads' ho); have HB1 := Lib.hid hb1; clear ho hb1)
    | (go_at_call 46; refine (forecourtlaw09_Table.calls 4 tb _ y_table).mono ?_; rintro e w2 ⟨v2, rfl, ho2, hb2⟩; obtain ⟨A2, c2, hv2⟩ := Kd.N_slice ho2; subst hv2; have HO2 := Lib.hid (Kd.N_reads' ho2); have HB2 := Lib.hid hb2; clear ho2 hb2)
    | (go_at_call 37; refine (forecourtlaw09_rg.calls (-5) 5 (-5) 5 _ (y_rg _ _)).mono ?_; rintro e w3 ⟨rfl, hb3⟩; have HB3 := Lib.hid hb3; clear hb3))
  have HYS := Lib.hid (show YS w ((w3.alloc (.cells #[.int .i64 4, .slice A2 2 c2] 39)).alloc (.cells #[.int .i64 (-5), .int .i64 5] 24)) w3.heap.size A c A2 c2 from by
    have b0 := (Blk.new w3 #[.int .i64 4, .slice A2 2 c2] 39).alloc (.cells #[.int .i64 (-5), .int .i64 5] 24)
    have b1 := Blk.new (w3.alloc (.cells #[.int .i64 4, .slice A2 2 c2] 39)) #[.int .i64 (-5), .int .i64 5] 24
    simp only [World.size_alloc] at b1
    have hw2 := below_then HB1.out HB1.out.size HB2.out
    have hw3 := below_then hw2 hw2.size HB3.out
    exact ⟨b0, b1, Kd.C_below (Kd.C_below (Kd.C_below HO.out.2.2 HB2.out) HB3.out) (boxes2 _ _ _), HO.out.2.1, Kd.C_below (Kd.C_below HO2.out.2.2 HB3.out) (boxes2 _ _ _), HO2.out.2.1, below_then hw3 hw3.size (boxes2 _ _ _)⟩)
  clear HO HO2 HB1 HB2 HB3
  generalize hbx : w3.heap.size = b at *
  clear hbx
  try simp only [show tb.length = 2 from rfl, show sg.length = 3 from rfl]
  generalize ((w3.alloc (.cells #[.int .i64 4, .slice A2 2 c2] 39)).alloc (.cells #[.int .i64 (-5), .int .i64 5] 24)) = W0 at *
  have c0 : W0.cell? ⟨b, 0, none⟩ = some (.int .i64 4) := HYS.out.t.cell 0
  have c1 : W0.cell? ⟨b, 1, none⟩ = some (.slice A2 2 c2) := HYS.out.t.cell 1
  have s0 : W0.cell? ⟨b + 1, 0, none⟩ = some (.int .i64 (-5)) := HYS.out.k.cell 0
  have s1 : W0.cell? ⟨b + 1, 1, none⟩ = some (.int .i64 5) := HYS.out.k.cell 1
  go_upto_region 3 with (go_at_call 16; refine (pole_Price.calls 100 A c sg 59 180 0 _ HYS.out.S HYS.out.hc y_price).mono ?_; rintro e W1 ⟨rfl, hb⟩; have HB := Lib.hid hb; clear hb)
  replace HYS := Lib.hid (HYS.out.below HB.out)
  clear c0 c1 s0 s1 HB
  have c0 : W1.cell? ⟨b, 0, none⟩ = some (.int .i64 4) := HYS.out.t.cell 0
  have c1 : W1.cell? ⟨b, 1, none⟩ = some (.slice A2 2 c2) := HYS.out.t.cell 1
  have s0 : W1.cell? ⟨b + 1, 0, none⟩ = some (.int .i64 (-5)) := HYS.out.k.cell 0
  have s1 : W1.cell? ⟨b + 1, 1, none⟩ = some (.int .i64 5) := HYS.out.k.cell 1
  go_upto_region 4 with (go_at_call 18; refine (pole_Fair.calls A c sg (-5) 5 104 170 0 _ HYS.out.S HYS.out.hc y_fair).mono ?_; rintro e W2 ⟨rfl, hb⟩; have HB := Lib.hid hb; clear hb)
  replace HYS := Lib.hid (HYS.out.below HB.out)
  clear c0 c1 s0 s1 HB
  have c0 : W2.cell? ⟨b, 0, none⟩ = some (.int .i64 4) := HYS.out.t.cell 0
  have c1 : W2.cell? ⟨b, 1, none⟩ = some (.slice A2 2 c2) := HYS.out.t.cell 1
  have s0 : W2.cell? ⟨b + 1, 0, none⟩ = some (.int .i64 (-5)) := HYS.out.k.cell 0
  have s1 : W2.cell? ⟨b + 1, 1, none⟩ = some (.int .i64 5) := HYS.out.k.cell 1
  go_upto_region 5 with (go_at_call 24; refine (pole_Highest.calls A c sg (-5) 5 hg9 0 _ HYS.out.S HYS.out.hc y_high).mono ?_; rintro e W3 ⟨vh, rfl, ho, hb⟩; obtain ⟨Ah, ch, hv⟩ := Kd.R_slice (id ho); subst hv; have HOh := Lib.hid (Rd.of (id ho)); have HB := Lib.hid hb; clear ho hb)
  replace HYS := Lib.hid (HYS.out.below HB.out)
  clear c0 c1 s0 s1 HB
  have c0 : W3.cell? ⟨b, 0, none⟩ = some (.int .i64 4) := HYS.out.t.cell 0
  have c1 : W3.cell? ⟨b, 1, none⟩ = some (.slice A2 2 c2) := HYS.out.t.cell 1
  have s0 : W3.cell? ⟨b + 1, 0, none⟩ = some (.int .i64 (-5)) := HYS.out.k.cell 0
  have s1 : W3.cell? ⟨b + 1, 1, none⟩ = some (.int .i64 5) := HYS.out.k.cell 1
  go_upto_region 6 with (go_at_call 22; refine (pole_Cheat.calls A c sg A c sg (-5) 5 55 0 _ HYS.out.S HYS.out.hc HYS.out.S HYS.out.hc y_cheat).mono ?_; rintro e W4 ⟨rfl, hb⟩; have HB := Lib.hid hb; clear hb)
  have HOh := Lib.hid (HOh.out.below HB.out)
  replace HYS := Lib.hid (HYS.out.below HB.out)
  clear c0 c1 s0 s1 HB
  have c0 : W4.cell? ⟨b, 0, none⟩ = some (.int .i64 4) := HYS.out.t.cell 0
  have c1 : W4.cell? ⟨b, 1, none⟩ = some (.slice A2 2 c2) := HYS.out.t.cell 1
  have s0 : W4.cell? ⟨b + 1, 0, none⟩ = some (.int .i64 (-5)) := HYS.out.k.cell 0
  have s1 : W4.cell? ⟨b + 1, 1, none⟩ = some (.int .i64 5) := HYS.out.k.cell 1
  go_upto_region 7 with (first
    | (go_at_call 37; refine (forecourtlaw09_rg.calls 0 0 0 0 _ (y_rg _ _)).mono ?_; rintro e Wx ⟨rfl, hbx⟩; have HBx := Lib.hid hbx; clear hbx)
    | (go_at_call 22; refine (pole_Cheat.calls A c sg A c sg 0 0 0 5 _ (Kd.C_below HYS.out.S HBx.out) HYS.out.hc (Kd.C_below HYS.out.S HBx.out) HYS.out.hc y_cheat0).mono ?_; rintro e W5 ⟨rfl, hb⟩; have HB := Lib.hid (below_then HBx.out HBx.out.size hb); clear hb HBx))
  have HOh := Lib.hid (HOh.out.below HB.out)
  replace HYS := Lib.hid (HYS.out.below HB.out)
  clear c0 c1 s0 s1 HB
  have c0 : W5.cell? ⟨b, 0, none⟩ = some (.int .i64 4) := HYS.out.t.cell 0
  have c1 : W5.cell? ⟨b, 1, none⟩ = some (.slice A2 2 c2) := HYS.out.t.cell 1
  have s0 : W5.cell? ⟨b + 1, 0, none⟩ = some (.int .i64 (-5)) := HYS.out.k.cell 0
  have s1 : W5.cell? ⟨b + 1, 1, none⟩ = some (.int .i64 5) := HYS.out.k.cell 1
  go_upto_region 8 with (go_at_call 30; refine (pole_CheckRounding.calls 4 A2 c2 tb (some ⟨W5.heap.size + 2, 0, none⟩) 2 [[0, 1, 0], [1, 0, 0]] 0 _ (Kd.C_below HYS.out.T (((Below.refl _ _).alloc (Nat.le_refl _) _).alloc (by simp) _ |>.alloc (by simp; omega) _)) HYS.out.hc2 (lit2 W5 [0, 1, 0] [1, 0, 0] #[.int .i64 0, .int .i64 1, .int .i64 0] #[.int .i64 1, .int .i64 0, .int .i64 0] rfl rfl rfl rfl) (by decide) y_ro1).mono ?_; rintro e W6 ⟨rfl, hb⟩; have HB := Lib.hid (alloc_step (alloc_step (alloc_step hb))); clear hb)
  have HOh := Lib.hid (HOh.out.below HB.out)
  replace HYS := Lib.hid (HYS.out.below HB.out)
  clear c0 c1 s0 s1 HB
  have c0 : W6.cell? ⟨b, 0, none⟩ = some (.int .i64 4) := HYS.out.t.cell 0
  have c1 : W6.cell? ⟨b, 1, none⟩ = some (.slice A2 2 c2) := HYS.out.t.cell 1
  have s0 : W6.cell? ⟨b + 1, 0, none⟩ = some (.int .i64 (-5)) := HYS.out.k.cell 0
  have s1 : W6.cell? ⟨b + 1, 1, none⟩ = some (.int .i64 5) := HYS.out.k.cell 1
  go_upto_region 9 with (go_at_call 30; refine (pole_CheckRounding.calls 4 A2 c2 tb (some ⟨W6.heap.size + 2, 0, none⟩) 2 [[1, 1, 0], [0, 0, 0]] 16 _ (Kd.C_below HYS.out.T (((Below.refl _ _).alloc (Nat.le_refl _) _).alloc (by simp) _ |>.alloc (by simp; omega) _)) HYS.out.hc2 (lit2 W6 [1, 1, 0] [0, 0, 0] #[.int .i64 1, .int .i64 1, .int .i64 0] #[.int .i64 0, .int .i64 0, .int .i64 0] rfl rfl rfl rfl) (by decide) y_ro2).mono ?_; rintro e W7 ⟨rfl, hb⟩; have HB := Lib.hid (alloc_step (alloc_step (alloc_step hb))); clear hb)
  have HOh := Lib.hid (HOh.out.below HB.out)
  replace HYS := Lib.hid (HYS.out.below HB.out)
  clear c0 c1 s0 s1 HB
  have c0 : W7.cell? ⟨b, 0, none⟩ = some (.int .i64 4) := HYS.out.t.cell 0
  have c1 : W7.cell? ⟨b, 1, none⟩ = some (.slice A2 2 c2) := HYS.out.t.cell 1
  have s0 : W7.cell? ⟨b + 1, 0, none⟩ = some (.int .i64 (-5)) := HYS.out.k.cell 0
  have s1 : W7.cell? ⟨b + 1, 1, none⟩ = some (.int .i64 5) := HYS.out.k.cell 1
  go_upto_region 10 with (go_at_call 32; refine (pole_Round.calls 4 A2 c2 tb rd9 0 _ HYS.out.T HYS.out.hc2 y_round).mono ?_; rintro e W8 ⟨vr, rfl, ho, hb⟩; obtain ⟨Ar, cr, hv⟩ := Kd.R_slice (Kd.S_R ho); subst hv; have HOr := Lib.hid (Rd.of (Kd.S_R ho)); have HB := Lib.hid hb; clear ho hb)
  have HOh := Lib.hid (HOh.out.below HB.out)
  replace HYS := Lib.hid (HYS.out.below HB.out)
  clear c0 c1 s0 s1 HB
  have c0 : W8.cell? ⟨b, 0, none⟩ = some (.int .i64 4) := HYS.out.t.cell 0
  have c1 : W8.cell? ⟨b, 1, none⟩ = some (.slice A2 2 c2) := HYS.out.t.cell 1
  have s0 : W8.cell? ⟨b + 1, 0, none⟩ = some (.int .i64 (-5)) := HYS.out.k.cell 0
  have s1 : W8.cell? ⟨b + 1, 1, none⟩ = some (.int .i64 5) := HYS.out.k.cell 1
  go_upto_region 11 with (go_at_call 33; refine (pole_Force.calls 4 A2 c2 tb 0 2 true rd9 0 _ HYS.out.T HYS.out.hc2 y_f1).mono ?_; rintro e W9 ⟨vf, rfl, ho, hb⟩; obtain ⟨Af, cf, hv⟩ := Kd.R_slice (Kd.S_R ho); subst hv; have HOf := Lib.hid (Rd.of (Kd.S_R ho)); have HB := Lib.hid hb; clear ho hb)
  have HOh := Lib.hid (HOh.out.below HB.out)
  have HOr := Lib.hid (HOr.out.below HB.out)
  replace HYS := Lib.hid (HYS.out.below HB.out)
  clear c0 c1 s0 s1 HB
  have c0 : W9.cell? ⟨b, 0, none⟩ = some (.int .i64 4) := HYS.out.t.cell 0
  have c1 : W9.cell? ⟨b, 1, none⟩ = some (.slice A2 2 c2) := HYS.out.t.cell 1
  have s0 : W9.cell? ⟨b + 1, 0, none⟩ = some (.int .i64 (-5)) := HYS.out.k.cell 0
  have s1 : W9.cell? ⟨b + 1, 1, none⟩ = some (.int .i64 5) := HYS.out.k.cell 1
  go_upto_region 12 with (go_at_call 33; refine (pole_Force.calls 4 A2 c2 tb 1 2 true [] 5 _ HYS.out.T HYS.out.hc2 y_f2).mono ?_; rintro e W10 ⟨vn, rfl, ho, hb⟩; obtain ⟨An, cn, hv⟩ := Kd.R_slice (Kd.S_R ho); subst hv; have HOn := Lib.hid (Rd.of (Kd.S_R ho)); have HB := Lib.hid hb; clear ho hb)
  have HOh := Lib.hid (HOh.out.below HB.out)
  have HOr := Lib.hid (HOr.out.below HB.out)
  have HOf := Lib.hid (HOf.out.below HB.out)
  replace HYS := Lib.hid (HYS.out.below HB.out)
  clear c0 c1 s0 s1 HB
  have c0 : W10.cell? ⟨b, 0, none⟩ = some (.int .i64 4) := HYS.out.t.cell 0
  have c1 : W10.cell? ⟨b, 1, none⟩ = some (.slice A2 2 c2) := HYS.out.t.cell 1
  have s0 : W10.cell? ⟨b + 1, 0, none⟩ = some (.int .i64 (-5)) := HYS.out.k.cell 0
  have s1 : W10.cell? ⟨b + 1, 1, none⟩ = some (.int .i64 5) := HYS.out.k.cell 1
  go_upto_region 13 with (go_at_call 49; refine (pole_Mix.calls 4 A2 c2 tb mx9 0 _ HYS.out.T HYS.out.hc2 y_mix).mono ?_; rintro e W11 ⟨vx, rfl, ho, hb⟩; obtain ⟨Ax, cx, hv⟩ := Kd.R_slice (id ho); subst hv; have HOx := Lib.hid (Rd.of (id ho)); have HB := Lib.hid hb; clear ho hb)
  have HOh := Lib.hid (HOh.out.below HB.out)
  have HOr := Lib.hid (HOr.out.below HB.out)
  have HOf := Lib.hid (HOf.out.below HB.out)
  replace HYS := Lib.hid (HYS.out.below HB.out)
  clear c0 c1 s0 s1 HB
  have c0 : W11.cell? ⟨b, 0, none⟩ = some (.int .i64 4) := HYS.out.t.cell 0
  have c1 : W11.cell? ⟨b, 1, none⟩ = some (.slice A2 2 c2) := HYS.out.t.cell 1
  have s0 : W11.cell? ⟨b + 1, 0, none⟩ = some (.int .i64 (-5)) := HYS.out.k.cell 0
  have s1 : W11.cell? ⟨b + 1, 1, none⟩ = some (.int .i64 5) := HYS.out.k.cell 1
  go_wp2_with (first
    | (go_at_call 38; refine (forecourtlaw09_Price.calls 0 180 0 180 _ (y_pr 0 180)).mono ?_; rintro e W12 ⟨rfl, hb⟩; have HB := Lib.hid hb; clear hb c0 c1; replace HOh := Lib.hid (HOh.out.below HB.out); replace HOr := Lib.hid (HOr.out.below HB.out); replace HOf := Lib.hid (HOf.out.below HB.out); replace HOx := Lib.hid (HOx.out.below HB.out); replace HYS := Lib.hid (HYS.out.below HB.out); have c0 : W12.cell? ⟨b, 0, none⟩ = some (.int .i64 4) := HYS.out.t.cell 0; have c1 : W12.cell? ⟨b, 1, none⟩ = some (.slice A2 2 c2) := HYS.out.t.cell 1; clear HB)
    | (go_at_call 38; refine (forecourtlaw09_Price.calls 55 170 55 170 _ (y_pr 55 170)).mono ?_; rintro e W13 ⟨rfl, hb⟩; have HB := Lib.hid hb; clear hb c0 c1; replace HOh := Lib.hid (HOh.out.below HB.out); replace HOr := Lib.hid (HOr.out.below HB.out); replace HOf := Lib.hid (HOf.out.below HB.out); replace HOx := Lib.hid (HOx.out.below HB.out); replace HYS := Lib.hid (HYS.out.below HB.out); have c0 : W13.cell? ⟨b, 0, none⟩ = some (.int .i64 4) := HYS.out.t.cell 0; have c1 : W13.cell? ⟨b, 1, none⟩ = some (.slice A2 2 c2) := HYS.out.t.cell 1; clear HB)
    | (go_at_call 38; refine (forecourtlaw09_Price.calls 105 185 105 185 _ (y_pr 105 185)).mono ?_; rintro e W14 ⟨rfl, hb⟩; have HB := Lib.hid hb; clear hb c0 c1; replace HOh := Lib.hid (HOh.out.below HB.out); replace HOr := Lib.hid (HOr.out.below HB.out); replace HOf := Lib.hid (HOf.out.below HB.out); replace HOx := Lib.hid (HOx.out.below HB.out); replace HYS := Lib.hid (HYS.out.below HB.out); have c0 : W14.cell? ⟨b, 0, none⟩ = some (.int .i64 4) := HYS.out.t.cell 0; have c1 : W14.cell? ⟨b, 1, none⟩ = some (.slice A2 2 c2) := HYS.out.t.cell 1; clear HB)
    | (go_at_call 26; refine (forecourtlaw09_prices.calls 100 Ah ch hg9 (some ⟨W14.heap.size, 0, none⟩) 3 hg9 true _ (HOh.out.below (alloc_step (Below.refl _ _))).C (by have := HOh.out.hc; exact this) (lit54 W14) (by decide) y_prices).mono ?_; rintro e W15 ⟨rfl, hb⟩; have HB := Lib.hid (alloc_step (drawn_below hb)); clear hb c0 c1; replace HOh := Lib.hid (HOh.out.below HB.out); replace HOr := Lib.hid (HOr.out.below HB.out); replace HOf := Lib.hid (HOf.out.below HB.out); replace HOx := Lib.hid (HOx.out.below HB.out); replace HYS := Lib.hid (HYS.out.below HB.out); have c0 : W15.cell? ⟨b, 0, none⟩ = some (.int .i64 4) := HYS.out.t.cell 0; have c1 : W15.cell? ⟨b, 1, none⟩ = some (.slice A2 2 c2) := HYS.out.t.cell 1; clear HB)
    | (go_at_call 31; refine (forecourtref09_CheckRounding.calls 100 4 A2 c2 tb Ar cr rd9 0 _ HYS.out.T HYS.out.hc2 HOr.out.C HOr.out.hc y_ref).mono ?_; rintro e W16 ⟨rfl, hb⟩; have HB := Lib.hid hb; clear hb c0 c1; replace HOh := Lib.hid (HOh.out.below HB.out); replace HOr := Lib.hid (HOr.out.below HB.out); replace HOf := Lib.hid (HOf.out.below HB.out); replace HOx := Lib.hid (HOx.out.below HB.out); replace HYS := Lib.hid (HYS.out.below HB.out); have c0 : W16.cell? ⟨b, 0, none⟩ = some (.int .i64 4) := HYS.out.t.cell 0; have c1 : W16.cell? ⟨b, 1, none⟩ = some (.slice A2 2 c2) := HYS.out.t.cell 1; clear HB)
    | (go_at_call 50; refine (forecourtlaw09_same.calls 100 Af cf rd9 (some ⟨W16.heap.size + 2, 0, none⟩) 2 [[0, 0, 1], [1, 0, 0]] true _ (HOf.out.below (alloc_step (alloc_step (alloc_step (Below.refl _ _))))).C HOf.out.hc (lit2 W16 [0, 0, 1] [1, 0, 0] #[.int .i64 0, .int .i64 0, .int .i64 1] #[.int .i64 1, .int .i64 0, .int .i64 0] rfl rfl rfl rfl) (by decide) y_same).mono ?_; rintro e W17 ⟨rfl, hb⟩; have HB := Lib.hid (alloc_step (alloc_step (alloc_step (drawn_below hb)))); clear hb c0 c1; replace HOh := Lib.hid (HOh.out.below HB.out); replace HOr := Lib.hid (HOr.out.below HB.out); replace HOf := Lib.hid (HOf.out.below HB.out); replace HOx := Lib.hid (HOx.out.below HB.out); replace HYS := Lib.hid (HYS.out.below HB.out); have c0 : W17.cell? ⟨b, 0, none⟩ = some (.int .i64 4) := HYS.out.t.cell 0; have c1 : W17.cell? ⟨b, 1, none⟩ = some (.slice A2 2 c2) := HYS.out.t.cell 1; clear HB)
    | (go_at_call 48; refine (forecourtref09_CheckMix.calls 100 4 A2 c2 tb Ax cx mx9 0 _ HYS.out.T HYS.out.hc2 HOx.out.C HOx.out.hc y_refm).mono ?_; rintro e W18 ⟨rfl, hb⟩; have HB := Lib.hid hb; clear hb c0 c1; replace HOh := Lib.hid (HOh.out.below HB.out); replace HOr := Lib.hid (HOr.out.below HB.out); replace HOf := Lib.hid (HOf.out.below HB.out); replace HOx := Lib.hid (HOx.out.below HB.out); replace HYS := Lib.hid (HYS.out.below HB.out); have c0 : W18.cell? ⟨b, 0, none⟩ = some (.int .i64 4) := HYS.out.t.cell 0; have c1 : W18.cell? ⟨b, 1, none⟩ = some (.slice A2 2 c2) := HYS.out.t.cell 1; clear HB))
  go_ret
  exact ⟨rfl, HYS.out.g⟩
/-- Works says yes. -/
def forecourtlaw09_Works.f : Option Bool := some true
theorem forecourtlaw09_Works.calls (r : Bool) (w : World) (h : forecourtlaw09_Works.f = some r) : Calls Try.prog 15 #[] w fun e w' => e = .returned (.bool r) ∧ Below w.heap.size w w' := by
  injection h with h
  subst h
  exact works_calls w
end Go.Proofs.Ytcgdbjojjpoegaa.P

