/- Texts of this claim, joined: Pf13, PurePoleMixes, LT, LM. -/
import Derived.Test.YtcgdbjojjpoegaaGPoleMixes1
namespace Go.Proofs.Ytcgdbjojjpoegaa.P
open Go.RowKit Go.Proofs.YtcgdbjojjpoegaaW.PrintWords Go.Proofs.YtcgdbjojjpoegaaW.PrintLast Go.Proofs.YtcgdbjojjpoegaaW.PrintMore
attribute [local go_sem] max2_int min2_int max_two min_two max_three min_three max_four min_four   -- for this text's walks alone
set_option linter.unusedVariables false
set_option linter.unusedSimpArgs false

/-! ### forecourtlaw09_PoleMixes: function 13 -/
mutual
def forecourtlaw09_PoleMixes.j0 : Nat → List (S71) → Bool → Int → List (List Int) → Option (Bool)
  | 0, _, _, _, _ => none
  | k + 1, x1, x15, x672000, x672001 => if x15 = true then ((forecourtlaw09_Works.f).bind fun t673 => (some t673)) else (forecourtlaw09_PoleMixes.l0 k x1 0 x672000 x672001)
def forecourtlaw09_PoleMixes.l0 : Nat → List (S71) → Int → Int → List (List Int) → Option (Bool)
  | 0, _, _, _, _ => none
  | k + 1, x1, x5, x672000, x672001 => if x5 < (x1.length : Int) then (if 0 ≤ x5 then ((forecourtlaw09_long.f k ((rd_T71 x1 x5).f1)).bind fun t675 => (if t675 = true then ((forecourtlaw09_Works.f).bind fun t676 => (some t676)) else (forecourtlaw09_PoleMixes.l0 k x1 (wrap64 (x5 + 1)) x672000 x672001))) else (none)) else ((pole_CheckMix.f x672000 x672001 x1).bind fun t677 => ((forecourtref09_CheckMix.f k x672000 x672001 x1).bind fun t678 => (if t677 = t678 then ((pole_Mix.f x672000 x672001).bind fun bt679 => ((forecourtref09_CheckTable.f k x672000 x672001).bind fun t683 => (if bt679.2 = t683 then (if bt679.2 = 0 then ((forecourtref09_CheckMix.f k x672000 x672001 bt679.1).bind fun t684 => (if t684 = 0 then ((forecourtlaw09_Works.f).bind fun t685 => (some t685)) else (some false))) else (if (bt679.1.length : Int) = 0 then ((forecourtlaw09_Works.f).bind fun t686 => (some t686)) else (some false))) else (some false)))) else (some false))))
end
def forecourtlaw09_PoleMixes.f (k : Nat) (a0_0 : Int) (l0_1 : List (List Int)) (l1 : List (S71)) : Option (Bool) := (forecourtlaw09_long.f k l0_1).bind fun t672 => (if t672 = true then (forecourtlaw09_PoleMixes.j0 k l1 true a0_0 l0_1) else (forecourtlaw09_PoleMixes.j0 k l1 (decide ((l1.length : Int) > 70)) a0_0 l0_1))
set_option maxHeartbeats 8000000 in
set_option maxRecDepth 100000 in
theorem forecourtlaw09_PoleMixes.calls (k : Nat) (a0_0 : Int) (A0_1 : Option Addr) (c0_1 : Nat) (l0_1 : List (List Int)) (A1 : Option Addr) (c1 : Nat) (l1 : List (S71)) (r : Bool) (w : World) (hr0_1 : Kd.C (Kd.slice 2 (Kd.int .i64)) w A0_1 l0_1.length l0_1) (hc0_1 : l0_1.length ≤ c0_1) (hr1 : Kd.C k71 w A1 l1.length l1) (hc1 : l1.length ≤ c1) (h : forecourtlaw09_PoleMixes.f k a0_0 l0_1 l1 = some r) :
    Calls Try.prog 13 #[.agg #[.int .i64 a0_0, .slice A0_1 l0_1.length c0_1], .slice A1 l1.length c1] w fun e w' => e = .returned (.bool r) ∧ Below w.heap.size w w' := by
  have hu39 := Try.underlying39
  have HR0_1 := Aside0.mk hr0_1
  have HC0_1 := Aside0.mk hc0_1
  clear hr0_1 hc0_1
  have HR1 := Aside0.mk hr1
  have HC1 := Aside0.mk hc1
  clear hr1 hc1
  have HB := Aside0.mk (Below.refl w.heap.size w)
  have H : ((forecourtlaw09_long.f k l0_1).bind fun t672 => (if t672 = true then (forecourtlaw09_PoleMixes.j0 k l1 true a0_0 l0_1) else (forecourtlaw09_PoleMixes.j0 k l1 (decide ((l1.length : Int) > 70)) a0_0 l0_1))) = some r := h
  clear h
  have HC3 := Aside0.mk H
  clear H
  go_enter Try.func13, Try.ntmps13
  go_upto_region 1 with (first | ((with_reducible refine gate_dst (N := 2) rfl ?_); (try (refine gate_guard (by rfl) ?_; dsimp only)); refine bx_ (cs := #[.int .i64 a0_0, .slice A0_1 l0_1.length c0_1]) (t := 39) (fun gb671 w4 BK671 GE671 HB => ?_)))
  (try simp only [Act.put, List.setIfInBounds_toArray, List.set_cons_zero, List.set_cons_succ])
  go_cut [15] (fun v15 wc => ∃ (kq : Nat) (x15_2 : Bool), v15 = .bool x15_2 ∧ Aside0 (forecourtlaw09_PoleMixes.j0 kq l1 x15_2 a0_0 l0_1 = some r) ∧ Aside0 (kq ≤ k) ∧ Aside0 (wc.heap[gb671]? = some (.cells #[.int .i64 a0_0, (.slice A0_1 l0_1.length c0_1)] 39 (0, 0))) ∧ Aside0 (Below w.heap.size w wc))
  case first =>
    have H := HC3.out
    clear HC3
    replace H := Option.bind_eq_some_iff.mp H
    obtain ⟨t672, A50, H⟩ := H
    replace H : (if t672 = true then (forecourtlaw09_PoleMixes.j0 k l1 true a0_0 l0_1) else (forecourtlaw09_PoleMixes.j0 k l1 (decide ((l1.length : Int) > 70)) a0_0 l0_1)) = some r := H
    have A5 := Aside0.mk A50
    clear A50
    by_cases c6 : t672 = true
    · subst c6
      have H1 : (forecourtlaw09_PoleMixes.j0 k l1 true a0_0 l0_1) = some r := by rw [if_pos rfl] at H; exact H
      clear H
      have H := H1
      clear H1
      have H' := Aside0.mk H
      clear H
      obtain ⟨hcz7_0, hcz7_1, hfz7_0, hfz7_1⟩ := cz2_ BK671.out
      go_wp2_with (first | ((with_reducible refine gate_callee (f := 27) rfl ?_); refine goesL_ (some 10) rfl rfl Try.func27 (by kernel_rfl) rfl #[.slice A0_1 l0_1.length c0_1] rfl b3_ ?_; (with_reducible refine (forecourtlaw09_long.calls k _ _ l0_1 true _ ?side1 ?side2 A5.out).mono ?_); (case side1 => repeat (first | exact (Kd.C_below HR0_1.out HB.out) | (with_reducible refine Kd.C_alloc ?_ _) | (with_reducible refine Kd.C_drewN ?_ _) | (with_reducible refine Kd.C_drew ?_))); (case side2 => exact HC0_1.out); rintro e w' ⟨rfl, ⟨nd, rfl⟩⟩; refine ⟨_, rfl, ?_⟩))
      go_meet
      case rel => exact ⟨_, (true), b5_, H', ⟨b26_⟩, ⟨b36_⟩, ⟨b1_⟩⟩
    replace c6 := Bool.eq_false_iff.mpr c6
    subst c6
    have H1 : (forecourtlaw09_PoleMixes.j0 k l1 (decide ((l1.length : Int) > 70)) a0_0 l0_1) = some r := by rw [if_neg (show ¬ (false = true) by decide)] at H; exact H
    clear H
    have H := H1
    clear H1
    have H' := Aside0.mk H
    clear H
    obtain ⟨hcz8_0, hcz8_1, hfz8_0, hfz8_1⟩ := cz2_ BK671.out
    go_wp2_with (first | ((with_reducible refine gate_callee (f := 27) rfl ?_); refine goesL_ (some 10) rfl rfl Try.func27 (by kernel_rfl) rfl #[.slice A0_1 l0_1.length c0_1] rfl b3_ ?_; (with_reducible refine (forecourtlaw09_long.calls k _ _ l0_1 false _ ?side1 ?side2 A5.out).mono ?_); (case side1 => repeat (first | exact (Kd.C_below HR0_1.out HB.out) | (with_reducible refine Kd.C_alloc ?_ _) | (with_reducible refine Kd.C_drewN ?_ _) | (with_reducible refine Kd.C_drew ?_))); (case side2 => exact HC0_1.out); rintro e w' ⟨rfl, ⟨nd, rfl⟩⟩; refine ⟨_, rfl, ?_⟩))
    go_meet
    case rel => exact ⟨_, (decide ((l1.length : Int) > 70)), b5_, H', ⟨b26_⟩, ⟨b36_⟩, ⟨b1_⟩⟩
  clear HC3
  try clear c1
  try clear c2
  try clear p2
  try clear c6
  try clear hcz7_0
  try clear hcz7_1
  try clear hcz8_0
  try clear hcz8_1
  try clear hfz7_0
  try clear hfz7_1
  try clear hfz8_0
  try clear hfz8_1
  obtain ⟨kq, x15_2, rfl, HA, HJ2, BK671, HB⟩ := hcut
  cases kq with
  | zero => exact absurd HA.out (by simp [forecourtlaw09_PoleMixes.j0])
  | succ kj2 => ?_
  have H := HA.out
  clear HA
  simp only [forecourtlaw09_PoleMixes.j0] at H
  by_cases c9 : x15_2 = true
  · subst c9
    have H1 : ((forecourtlaw09_Works.f).bind fun t673 => (some t673)) = some r := by rw [if_pos rfl] at H; exact H
    clear H
    have H := H1
    clear H1
    replace H := Option.bind_eq_some_iff.mp H
    obtain ⟨t673, A100, H⟩ := H
    replace H : (some t673) = some r := H
    have A10 := Aside0.mk A100
    clear A100
    obtain rfl := Option.some.inj H
    go_wp2_with (first | ((with_reducible refine gate_callee (f := 15) rfl ?_); refine goesL_ (some 16) rfl rfl Try.func15 (by kernel_rfl) rfl #[] rfl b3_ ?_; (with_reducible refine (forecourtlaw09_Works.calls  t673 _ A10.out).mono ?_); rintro e w11 ⟨rfl, hb⟩; refine ⟨_, rfl, ?_⟩; replace BK671 := bk_ BK671 hb; replace HB := hB_ HB hb; (try clear hb)))
    go_ret
    exact ⟨b4_, b1_⟩
  replace c9 := Bool.eq_false_iff.mpr c9
  subst c9
  have H1 : (forecourtlaw09_PoleMixes.l0 kj2 l1 0 a0_0 l0_1) = some r := by rw [if_neg (show ¬ (false = true) by decide)] at H; exact H
  clear H
  have H := H1
  clear H1
  have H' := Aside0.mk H
  clear H
  go_wp2
  go_loopg [5] kj2 (fun kq v5 w' => ∃ (x5_2 : Int), v5 = .int .i64 x5_2 ∧ Aside0 (forecourtlaw09_PoleMixes.l0 kq l1 x5_2 a0_0 l0_1 = some r) ∧ Aside0 (kq ≤ kj2) ∧ Aside0 (w'.heap[gb671]? = some (.cells #[.int .i64 a0_0, (.slice A0_1 l0_1.length c0_1)] 39 (0, 0))) ∧ Aside0 (Below w.heap.size w w'))
  case atStart => exact ⟨(0), b5_, H', ⟨Nat.le_refl _⟩, ⟨b36_⟩, ⟨b1_⟩⟩
  clear H'
  try clear c1
  try clear c2
  try clear p2
  try clear c6
  try clear c9
  try clear hcz7_0
  try clear hcz7_1
  try clear hcz8_0
  try clear hcz8_1
  try clear hfz7_0
  try clear hfz7_1
  try clear hfz8_0
  try clear hfz8_1
  try clear p2
  obtain ⟨x5_2, rfl, HA, HK2, BK671, HB⟩ := hrel
  cases gk with
  | zero => exact absurd HA.out (by simp [forecourtlaw09_PoleMixes.l0])
  | succ k2 => ?_
  have H := HA.out
  clear HA
  simp only [forecourtlaw09_PoleMixes.l0] at H
  by_cases c12 : x5_2 < (l1.length : Int)
  · rw [if_pos c12] at H
    have c12b0 : decide (x5_2 < (l1.length : Int)) = true := decide_eq_true c12
    clear c12
    by_cases c13 : 0 ≤ x5_2
    rotate_left
    · rw [if_neg c13] at H
      exact absurd H (by simp)
    rw [if_pos c13] at H
    have c13b0 : decide (0 ≤ x5_2) = true := decide_eq_true c13
    clear c13
    replace H := Option.bind_eq_some_iff.mp H
    obtain ⟨t675, A140, H⟩ := H
    replace H : (if t675 = true then ((forecourtlaw09_Works.f).bind fun t676 => (some t676)) else (forecourtlaw09_PoleMixes.l0 k2 l1 (wrap64 (x5_2 + 1)) a0_0 l0_1)) = some r := H
    have A14 := Aside0.mk A140
    clear A140
    by_cases c15 : t675 = true
    rotate_left
    · replace c15 := Bool.eq_false_iff.mpr c15
      subst c15
      have H1 : (forecourtlaw09_PoleMixes.l0 k2 l1 (wrap64 (x5_2 + 1)) a0_0 l0_1) = some r := by rw [if_neg (show ¬ (false = true) by decide)] at H; exact H
      clear H
      have H := H1
      clear H1
      have H' := Aside0.mk H
      clear H
      have p674 : 0 ≤ (x5_2 : Int) := of_decide_eq_true b2_
      have q674 : x5_2 < (l1.length : Int) := of_decide_eq_true b2_
      obtain ⟨ad674, A674_1, c674_1, e674, hx674_0, hx674_1, hl674_1, hi674_1⟩ := at_T71 HR1.out x5_2 p674 q674
      cases e674
      replace hx674_0 := (HB.out.cell (World.block_lt_of_cell? w _ hx674_0)).trans hx674_0
      replace hx674_1 := (HB.out.cell (World.block_lt_of_cell? w _ hx674_1)).trans hx674_1
      have HR674_1 := Aside0.mk hi674_1
      have HC674_1 := Aside0.mk hl674_1
      clear hi674_1 hl674_1
      replace p674 := eq_true p674
      replace q674 := eq_true q674
      go_wp2_with (first | ((with_reducible refine gate_callee (f := 27) rfl ?_); refine goesL_ (some 28) rfl rfl Try.func27 (by kernel_rfl) rfl #[.slice A674_1 ((rd_T71 l1 x5_2).f1).length c674_1] rfl b3_ ?_; (with_reducible refine (forecourtlaw09_long.calls k2 _ _ ((rd_T71 l1 x5_2).f1) false _ ?side1 ?side2 A14.out).mono ?_); (case side1 => repeat (first | exact (Kd.C_below HR674_1.out HB.out) | (with_reducible refine Kd.C_alloc ?_ _) | (with_reducible refine Kd.C_drewN ?_ _) | (with_reducible refine Kd.C_drew ?_))); (case side2 => exact HC674_1.out); rintro e w' ⟨rfl, ⟨nd, rfl⟩⟩; refine ⟨_, rfl, ?_⟩))
      go_roundg k2
      case measure => have := HJ2.out; have := HK2.out; omega
      case rel => exact ⟨(wrap64 (x5_2 + 1)), b5_, H', ⟨(by have := HJ2.out; have := HK2.out; omega)⟩, ⟨b36_⟩, ⟨b1_⟩⟩
    subst c15
    have H1 : ((forecourtlaw09_Works.f).bind fun t676 => (some t676)) = some r := by rw [if_pos rfl] at H; exact H
    clear H
    have H := H1
    clear H1
    replace H := Option.bind_eq_some_iff.mp H
    obtain ⟨t676, A160, H⟩ := H
    replace H : (some t676) = some r := H
    have A16 := Aside0.mk A160
    clear A160
    obtain rfl := Option.some.inj H
    have p674 : 0 ≤ (x5_2 : Int) := of_decide_eq_true b2_
    have q674 : x5_2 < (l1.length : Int) := of_decide_eq_true b2_
    obtain ⟨ad674, A674_1, c674_1, e674, hx674_0, hx674_1, hl674_1, hi674_1⟩ := at_T71 HR1.out x5_2 p674 q674
    cases e674
    replace hx674_0 := (HB.out.cell (World.block_lt_of_cell? w _ hx674_0)).trans hx674_0
    replace hx674_1 := (HB.out.cell (World.block_lt_of_cell? w _ hx674_1)).trans hx674_1
    have HR674_1 := Aside0.mk hi674_1
    have HC674_1 := Aside0.mk hl674_1
    clear hi674_1 hl674_1
    replace p674 := eq_true p674
    replace q674 := eq_true q674
    go_wp2_with (first | ((with_reducible refine gate_callee (f := 27) rfl ?_); refine goesL_ (some 28) rfl rfl Try.func27 (by kernel_rfl) rfl #[.slice A674_1 ((rd_T71 l1 x5_2).f1).length c674_1] rfl b3_ ?_; (with_reducible refine (forecourtlaw09_long.calls k2 _ _ ((rd_T71 l1 x5_2).f1) true _ ?side1 ?side2 A14.out).mono ?_); (case side1 => repeat (first | exact (Kd.C_below HR674_1.out HB.out) | (with_reducible refine Kd.C_alloc ?_ _) | (with_reducible refine Kd.C_drewN ?_ _) | (with_reducible refine Kd.C_drew ?_))); (case side2 => exact HC674_1.out); rintro e w' ⟨rfl, ⟨nd, rfl⟩⟩; refine ⟨_, rfl, ?_⟩) | ((with_reducible refine gate_callee (f := 15) rfl ?_); refine goesL_ (some 29) rfl rfl Try.func15 (by kernel_rfl) rfl #[] rfl b3_ ?_; (with_reducible refine (forecourtlaw09_Works.calls  t676 _ A16.out).mono ?_); rintro e w17 ⟨rfl, hb⟩; refine ⟨_, rfl, ?_⟩; replace BK671 := bk_ BK671 hb; replace HB := hB_ HB hb; (try clear hb)))
    go_ret
    exact ⟨b4_, b1_⟩
  rw [if_neg c12] at H
  have c12b0 : decide (x5_2 < (l1.length : Int)) = false := decide_eq_false c12
  clear c12
  replace H := Option.bind_eq_some_iff.mp H
  obtain ⟨t677, A180, H⟩ := H
  replace H : ((forecourtref09_CheckMix.f k2 a0_0 l0_1 l1).bind fun t678 => (if t677 = t678 then ((pole_Mix.f a0_0 l0_1).bind fun bt679 => ((forecourtref09_CheckTable.f k2 a0_0 l0_1).bind fun t683 => (if bt679.2 = t683 then (if bt679.2 = 0 then ((forecourtref09_CheckMix.f k2 a0_0 l0_1 bt679.1).bind fun t684 => (if t684 = 0 then ((forecourtlaw09_Works.f).bind fun t685 => (some t685)) else (some false))) else (if (bt679.1.length : Int) = 0 then ((forecourtlaw09_Works.f).bind fun t686 => (some t686)) else (some false))) else (some false)))) else (some false))) = some r := H
  have A18 := Aside0.mk A180
  clear A180
  replace H := Option.bind_eq_some_iff.mp H
  obtain ⟨t678, A190, H⟩ := H
  replace H : (if t677 = t678 then ((pole_Mix.f a0_0 l0_1).bind fun bt679 => ((forecourtref09_CheckTable.f k2 a0_0 l0_1).bind fun t683 => (if bt679.2 = t683 then (if bt679.2 = 0 then ((forecourtref09_CheckMix.f k2 a0_0 l0_1 bt679.1).bind fun t684 => (if t684 = 0 then ((forecourtlaw09_Works.f).bind fun t685 => (some t685)) else (some false))) else (if (bt679.1.length : Int) = 0 then ((forecourtlaw09_Works.f).bind fun t686 => (some t686)) else (some false))) else (some false)))) else (some false)) = some r := H
  have A19 := Aside0.mk A190
  clear A190
  by_cases c20 : t677 = t678
  rotate_left
  · rw [if_neg c20] at H
    have c20b0 : (t677 == t678) = false := beq_eq_false_iff_ne.mpr c20
    have c20b1 : (t677 != t678) = true := bne_iff_ne.mpr c20
    obtain rfl := Option.some.inj H
    try go_wp2
    replace BK671 := Aside0.mk (blk_drew BK671.out)
    replace HB := Aside0.mk (below_drew1 HB.out)
    refine start_ (n := 7) (S := fun w' => w'.cell? ⟨gb671, 0, none⟩ = some (.int .i64 a0_0) ∧ w'.cell? ⟨gb671, 1, none⟩ = some (.slice A0_1 l0_1.length c0_1)) (ds := []) #[false, false, false, false, false, false, false] (by kernel_rfl) rfl rfl ⟨(blk_cell BK671.out 0).trans rfl, (blk_cell BK671.out 1).trans rfl⟩ (fun hHeld => ?_)
    generalize wr.drew = w75 at BK671 HB hHeld ⊢
    refine pure_ (i := 1) (N := some 31) (v := ?_) (a' := ?_) #[false, true, false, false, false, false, false] rfl rfl (by kernel_rfl) (fun _ _ _ h => h) (Or.inl ⟨(by rfl), ?_⟩) ?_ ?_
    rotate_left
    · intro w'
      go_simp
      with_reducible rfl
    rotate_left
    · simp only [Act.put, List.setIfInBounds_toArray, List.set_cons_zero, List.set_cons_succ, i64_w, i32_w]
      rfl
    refine pure_ (i := 4) (N := some 34) (v := ?_) (a' := ?_) #[false, true, false, false, true, false, false] rfl rfl (by kernel_rfl) (fun _ _ _ h => h) (Or.inl ⟨(by rfl), ?_⟩) ?_ ?_
    rotate_left
    · intro w'
      go_simp
      with_reducible rfl
    rotate_left
    · simp only [Act.put, List.setIfInBounds_toArray, List.set_cons_zero, List.set_cons_succ, i64_w, i32_w]
      rfl
    refine take_ (i := 0) (N := some 30) (v := ?_) (a' := ?_) #[true, true, false, false, true, false, false] rfl rfl (by kernel_rfl) (fun _ _ _ h => h) (Or.inl ⟨(by rfl), ?_⟩) hHeld ?_ ?_
    rotate_left
    · rintro w' ⟨s0, s1⟩
      go_simp
      with_reducible rfl
    rotate_left
    · simp only [Act.put, List.setIfInBounds_toArray, List.set_cons_zero, List.set_cons_succ, i64_w, i32_w]
      rfl
    refine take_ (i := 3) (N := some 33) (v := ?_) (a' := ?_) #[true, true, false, true, true, false, false] rfl rfl (by kernel_rfl) (fun _ _ _ h => h) (Or.inl ⟨(by rfl), ?_⟩) hHeld ?_ ?_
    rotate_left
    · rintro w' ⟨s0, s1⟩
      go_simp
      with_reducible rfl
    rotate_left
    · simp only [Act.put, List.setIfInBounds_toArray, List.set_cons_zero, List.set_cons_succ, i64_w, i32_w]
      rfl
    refine one_ (i := 2) (N := some 32) #[true, true, true, true, true, false, false] rfl rfl (by kernel_rfl) (by decide) (fun K hK => ?_)
    refine goes_ Try.func47 (by kernel_rfl) rfl #[.agg #[.int .i64 a0_0, .slice A0_1 l0_1.length c0_1], .slice A1 l1.length c1] (by rfl) rfl rfl b3_ ?_
    with_reducible refine (pole_CheckMix.calls a0_0 _ _ l0_1 _ _ l1 t677 _ ?side1 ?side2 ?side3 ?side4 A18.out).mono ?_
    (case side1 => repeat (first | exact (Kd.C_below HR0_1.out HB.out) | (with_reducible refine Kd.C_alloc ?_ _) | (with_reducible refine Kd.C_drewN ?_ _) | (with_reducible refine Kd.C_drew ?_)))
    (case side2 => exact HC0_1.out)
    (case side3 => repeat (first | exact (Kd.C_below HR1.out HB.out) | (with_reducible refine Kd.C_alloc ?_ _) | (with_reducible refine Kd.C_drewN ?_ _) | (with_reducible refine Kd.C_drew ?_)))
    (case side4 => exact HC1.out)
    rintro e w76 ⟨rfl, hb⟩
    refine ⟨_, rfl, ?_⟩
    replace BK671 := bk_ BK671 hb
    replace HB := hB_ HB hb
    (try clear hb)
    (try clear hb2)
    (try clear hk)
    (try clear hi)
    refine hK.out _ _ ⟨(blk_cell BK671.out 0).trans rfl, (blk_cell BK671.out 1).trans rfl⟩ (fun hHeld => ?_)
    clear hK K
    refine nA_ (some 32) ?_
    refine one_ (i := 5) (N := some 35) #[true, true, true, true, true, true, false] rfl rfl (by kernel_rfl) (by decide) (fun K hK => ?_)
    refine goes_ Try.func48 (by kernel_rfl) rfl #[.agg #[.int .i64 a0_0, .slice A0_1 l0_1.length c0_1], .slice A1 l1.length c1] (by rfl) rfl rfl b3_ ?_
    with_reducible refine (forecourtref09_CheckMix.calls k2 a0_0 _ _ l0_1 _ _ l1 t678 _ ?side1 ?side2 ?side3 ?side4 A19.out).mono ?_
    (case side1 => repeat (first | exact (Kd.C_below HR0_1.out HB.out) | (with_reducible refine Kd.C_alloc ?_ _) | (with_reducible refine Kd.C_drewN ?_ _) | (with_reducible refine Kd.C_drew ?_)))
    (case side2 => exact HC0_1.out)
    (case side3 => repeat (first | exact (Kd.C_below HR1.out HB.out) | (with_reducible refine Kd.C_alloc ?_ _) | (with_reducible refine Kd.C_drewN ?_ _) | (with_reducible refine Kd.C_drew ?_)))
    (case side4 => exact HC1.out)
    rintro e w77 ⟨rfl, hb⟩
    refine ⟨_, rfl, ?_⟩
    replace BK671 := bk_ BK671 hb
    replace HB := hB_ HB hb
    (try clear hb)
    (try clear hb2)
    (try clear hk)
    (try clear hi)
    refine hK.out _ _ ⟨(blk_cell BK671.out 0).trans rfl, (blk_cell BK671.out 1).trans rfl⟩ (fun hHeld => ?_)
    clear hK K
    refine nA_ (some 35) ?_
    refine pure_ (i := 6) (N := some 36) (v := ?_) (a' := ?_) #[true, true, true, true, true, true, true] rfl rfl (by kernel_rfl) (fun _ _ _ h => h) (Or.inl ⟨(by rfl), ?_⟩) ?_ ?_
    rotate_left
    · intro w'
      go_simp
      with_reducible rfl
    rotate_left
    · simp only [Act.put, List.setIfInBounds_toArray, List.set_cons_zero, List.set_cons_succ, i64_w, i32_w]
      rfl
    refine done_ (by kernel_rfl) ?_
    try go_wp2
    go_ret
    exact ⟨b4_, b1_⟩
  rw [if_pos c20] at H
  have c20b0 : (t677 == t678) = true := beq_iff_eq.mpr c20
  have c20b1 : (t677 != t678) = false := bne_eq_false_iff_eq.mpr c20
  clear c20
  replace H := Option.bind_eq_some_iff.mp H
  obtain ⟨⟨t679, t682⟩, A210, H⟩ := H
  replace H : ((forecourtref09_CheckTable.f k2 a0_0 l0_1).bind fun t683 => (if t682 = t683 then (if t682 = 0 then ((forecourtref09_CheckMix.f k2 a0_0 l0_1 t679).bind fun t684 => (if t684 = 0 then ((forecourtlaw09_Works.f).bind fun t685 => (some t685)) else (some false))) else (if (t679.length : Int) = 0 then ((forecourtlaw09_Works.f).bind fun t686 => (some t686)) else (some false))) else (some false))) = some r := H
  have A21 := Aside0.mk A210
  clear A210
  replace H := Option.bind_eq_some_iff.mp H
  obtain ⟨t683, A220, H⟩ := H
  replace H : (if t682 = t683 then (if t682 = 0 then ((forecourtref09_CheckMix.f k2 a0_0 l0_1 t679).bind fun t684 => (if t684 = 0 then ((forecourtlaw09_Works.f).bind fun t685 => (some t685)) else (some false))) else (if (t679.length : Int) = 0 then ((forecourtlaw09_Works.f).bind fun t686 => (some t686)) else (some false))) else (some false)) = some r := H
  have A22 := Aside0.mk A220
  clear A220
  by_cases c23 : t682 = t683
  rotate_left
  · rw [if_neg c23] at H
    have c23b0 : (t682 == t683) = false := beq_eq_false_iff_ne.mpr c23
    have c23b1 : (t682 != t683) = true := bne_iff_ne.mpr c23
    obtain rfl := Option.some.inj H
    try go_wp2
    replace BK671 := Aside0.mk (blk_drew BK671.out)
    replace HB := Aside0.mk (below_drew1 HB.out)
    refine start_ (n := 7) (S := fun w' => w'.cell? ⟨gb671, 0, none⟩ = some (.int .i64 a0_0) ∧ w'.cell? ⟨gb671, 1, none⟩ = some (.slice A0_1 l0_1.length c0_1)) (ds := []) #[false, false, false, false, false, false, false] (by kernel_rfl) rfl rfl ⟨(blk_cell BK671.out 0).trans rfl, (blk_cell BK671.out 1).trans rfl⟩ (fun hHeld => ?_)
    generalize wr.drew = w68 at BK671 HB hHeld ⊢
    refine pure_ (i := 1) (N := some 31) (v := ?_) (a' := ?_) #[false, true, false, false, false, false, false] rfl rfl (by kernel_rfl) (fun _ _ _ h => h) (Or.inl ⟨(by rfl), ?_⟩) ?_ ?_
    rotate_left
    · intro w'
      go_simp
      with_reducible rfl
    rotate_left
    · simp only [Act.put, List.setIfInBounds_toArray, List.set_cons_zero, List.set_cons_succ, i64_w, i32_w]
      rfl
    refine pure_ (i := 4) (N := some 34) (v := ?_) (a' := ?_) #[false, true, false, false, true, false, false] rfl rfl (by kernel_rfl) (fun _ _ _ h => h) (Or.inl ⟨(by rfl), ?_⟩) ?_ ?_
    rotate_left
    · intro w'
      go_simp
      with_reducible rfl
    rotate_left
    · simp only [Act.put, List.setIfInBounds_toArray, List.set_cons_zero, List.set_cons_succ, i64_w, i32_w]
      rfl
    refine take_ (i := 0) (N := some 30) (v := ?_) (a' := ?_) #[true, true, false, false, true, false, false] rfl rfl (by kernel_rfl) (fun _ _ _ h => h) (Or.inl ⟨(by rfl), ?_⟩) hHeld ?_ ?_
    rotate_left
    · rintro w' ⟨s0, s1⟩
      go_simp
      with_reducible rfl
    rotate_left
    · simp only [Act.put, List.setIfInBounds_toArray, List.set_cons_zero, List.set_cons_succ, i64_w, i32_w]
      rfl
    refine take_ (i := 3) (N := some 33) (v := ?_) (a' := ?_) #[true, true, false, true, true, false, false] rfl rfl (by kernel_rfl) (fun _ _ _ h => h) (Or.inl ⟨(by rfl), ?_⟩) hHeld ?_ ?_
    rotate_left
    · rintro w' ⟨s0, s1⟩
      go_simp
      with_reducible rfl
    rotate_left
    · simp only [Act.put, List.setIfInBounds_toArray, List.set_cons_zero, List.set_cons_succ, i64_w, i32_w]
      rfl
    refine one_ (i := 2) (N := some 32) #[true, true, true, true, true, false, false] rfl rfl (by kernel_rfl) (by decide) (fun K hK => ?_)
    refine goes_ Try.func47 (by kernel_rfl) rfl #[.agg #[.int .i64 a0_0, .slice A0_1 l0_1.length c0_1], .slice A1 l1.length c1] (by rfl) rfl rfl b3_ ?_
    with_reducible refine (pole_CheckMix.calls a0_0 _ _ l0_1 _ _ l1 t677 _ ?side1 ?side2 ?side3 ?side4 A18.out).mono ?_
    (case side1 => repeat (first | exact (Kd.C_below HR0_1.out HB.out) | (with_reducible refine Kd.C_alloc ?_ _) | (with_reducible refine Kd.C_drewN ?_ _) | (with_reducible refine Kd.C_drew ?_)))
    (case side2 => exact HC0_1.out)
    (case side3 => repeat (first | exact (Kd.C_below HR1.out HB.out) | (with_reducible refine Kd.C_alloc ?_ _) | (with_reducible refine Kd.C_drewN ?_ _) | (with_reducible refine Kd.C_drew ?_)))
    (case side4 => exact HC1.out)
    rintro e w69 ⟨rfl, hb⟩
    refine ⟨_, rfl, ?_⟩
    replace BK671 := bk_ BK671 hb
    replace HB := hB_ HB hb
    (try clear hb)
    (try clear hb2)
    (try clear hk)
    (try clear hi)
    refine hK.out _ _ ⟨(blk_cell BK671.out 0).trans rfl, (blk_cell BK671.out 1).trans rfl⟩ (fun hHeld => ?_)
    clear hK K
    refine nA_ (some 32) ?_
    refine one_ (i := 5) (N := some 35) #[true, true, true, true, true, true, false] rfl rfl (by kernel_rfl) (by decide) (fun K hK => ?_)
    refine goes_ Try.func48 (by kernel_rfl) rfl #[.agg #[.int .i64 a0_0, .slice A0_1 l0_1.length c0_1], .slice A1 l1.length c1] (by rfl) rfl rfl b3_ ?_
    with_reducible refine (forecourtref09_CheckMix.calls k2 a0_0 _ _ l0_1 _ _ l1 t678 _ ?side1 ?side2 ?side3 ?side4 A19.out).mono ?_
    (case side1 => repeat (first | exact (Kd.C_below HR0_1.out HB.out) | (with_reducible refine Kd.C_alloc ?_ _) | (with_reducible refine Kd.C_drewN ?_ _) | (with_reducible refine Kd.C_drew ?_)))
    (case side2 => exact HC0_1.out)
    (case side3 => repeat (first | exact (Kd.C_below HR1.out HB.out) | (with_reducible refine Kd.C_alloc ?_ _) | (with_reducible refine Kd.C_drewN ?_ _) | (with_reducible refine Kd.C_drew ?_)))
    (case side4 => exact HC1.out)
    rintro e w70 ⟨rfl, hb⟩
    refine ⟨_, rfl, ?_⟩
    replace BK671 := bk_ BK671 hb
    replace HB := hB_ HB hb
    (try clear hb)
    (try clear hb2)
    (try clear hk)
    (try clear hi)
    refine hK.out _ _ ⟨(blk_cell BK671.out 0).trans rfl, (blk_cell BK671.out 1).trans rfl⟩ (fun hHeld => ?_)
    clear hK K
    refine nA_ (some 35) ?_
    refine pure_ (i := 6) (N := some 36) (v := ?_) (a' := ?_) #[true, true, true, true, true, true, true] rfl rfl (by kernel_rfl) (fun _ _ _ h => h) (Or.inl ⟨(by rfl), ?_⟩) ?_ ?_
    rotate_left
    · intro w'
      go_simp
      with_reducible rfl
    rotate_left
    · simp only [Act.put, List.setIfInBounds_toArray, List.set_cons_zero, List.set_cons_succ, i64_w, i32_w]
      rfl
    refine done_ (by kernel_rfl) ?_
    obtain ⟨hcz71_0, hcz71_1, hfz71_0, hfz71_1⟩ := cz2_ BK671.out
    try go_wp2_with (first | ((with_reducible refine gate_callee (f := 49) rfl ?_); refine goesL_ (some 39) rfl rfl Try.func49 (by kernel_rfl) rfl #[.agg #[.int .i64 a0_0, .slice A0_1 l0_1.length c0_1]] rfl b3_ ?_; (with_reducible refine (pole_Mix.calls a0_0 _ _ l0_1 t679 t682 _ ?side1 ?side2 A21.out).mono ?_); (case side1 => repeat (first | exact (Kd.C_below HR0_1.out HB.out) | (with_reducible refine Kd.C_alloc ?_ _) | (with_reducible refine Kd.C_drewN ?_ _) | (with_reducible refine Kd.C_drew ?_))); (case side2 => exact HC0_1.out); rintro e w72 ⟨v680, rfl, ho0, hb⟩; refine ⟨_, rfl, ?_⟩; have HO681 := Aside0.mk (Kd.R_lower ho0 (below_size b1_)); replace BK671 := bk_ BK671 hb; replace HB := hB_ HB hb; (try clear hb); obtain ⟨hcz73_0, hcz73_1, hfz73_0, hfz73_1⟩ := cz2_ BK671.out) | ((with_reducible refine gate_callee (f := 29) rfl ?_); refine goesL_ (some 44) rfl rfl Try.func29 (by kernel_rfl) rfl #[.agg #[.int .i64 a0_0, .slice A0_1 l0_1.length c0_1]] rfl b3_ ?_; (with_reducible refine (forecourtref09_CheckTable.calls k2 a0_0 _ _ l0_1 t683 _ ?side1 ?side2 A22.out).mono ?_); (case side1 => repeat (first | exact (Kd.C_below HR0_1.out HB.out) | (with_reducible refine Kd.C_alloc ?_ _) | (with_reducible refine Kd.C_drewN ?_ _) | (with_reducible refine Kd.C_drew ?_))); (case side2 => exact HC0_1.out); rintro e w74 ⟨rfl, hb⟩; refine ⟨_, rfl, ?_⟩; replace HO681 := Aside0.mk (Kd.R_below b23_ hb); replace BK671 := bk_ BK671 hb; replace HB := hB_ HB hb; (try clear hb)))
    go_ret
    exact ⟨b4_, b1_⟩
  rw [if_pos c23] at H
  have c23b0 : (t682 == t683) = true := beq_iff_eq.mpr c23
  have c23b1 : (t682 != t683) = false := bne_eq_false_iff_eq.mpr c23
  clear c23
  by_cases c24 : t682 = 0
  rotate_left
  · rw [if_neg c24] at H
    have c24b0 : (t682 == 0) = false := beq_eq_false_iff_ne.mpr c24
    have c24b1 : (t682 != 0) = true := bne_iff_ne.mpr c24
    by_cases c49 : (t679.length : Int) = 0
    rotate_left
    · rw [if_neg c49] at H
      have c49b0 : ((t679.length : Int) == 0) = false := beq_eq_false_iff_ne.mpr c49
      have c49b1 : ((t679.length : Int) != 0) = true := bne_iff_ne.mpr c49
      have c49b2 : ¬ (t679 = []) := fun h_ => c49 (by rw [h_]; rfl)
      obtain rfl := Option.some.inj H
      try go_wp2
      replace BK671 := Aside0.mk (blk_drew BK671.out)
      replace HB := Aside0.mk (below_drew1 HB.out)
      refine start_ (n := 7) (S := fun w' => w'.cell? ⟨gb671, 0, none⟩ = some (.int .i64 a0_0) ∧ w'.cell? ⟨gb671, 1, none⟩ = some (.slice A0_1 l0_1.length c0_1)) (ds := []) #[false, false, false, false, false, false, false] (by kernel_rfl) rfl rfl ⟨(blk_cell BK671.out 0).trans rfl, (blk_cell BK671.out 1).trans rfl⟩ (fun hHeld => ?_)
      generalize wr.drew = w60 at BK671 HB hHeld ⊢
      refine pure_ (i := 1) (N := some 31) (v := ?_) (a' := ?_) #[false, true, false, false, false, false, false] rfl rfl (by kernel_rfl) (fun _ _ _ h => h) (Or.inl ⟨(by rfl), ?_⟩) ?_ ?_
      rotate_left
      · intro w'
        go_simp
        with_reducible rfl
      rotate_left
      · simp only [Act.put, List.setIfInBounds_toArray, List.set_cons_zero, List.set_cons_succ, i64_w, i32_w]
        rfl
      refine pure_ (i := 4) (N := some 34) (v := ?_) (a' := ?_) #[false, true, false, false, true, false, false] rfl rfl (by kernel_rfl) (fun _ _ _ h => h) (Or.inl ⟨(by rfl), ?_⟩) ?_ ?_
      rotate_left
      · intro w'
        go_simp
        with_reducible rfl
      rotate_left
      · simp only [Act.put, List.setIfInBounds_toArray, List.set_cons_zero, List.set_cons_succ, i64_w, i32_w]
        rfl
      refine take_ (i := 0) (N := some 30) (v := ?_) (a' := ?_) #[true, true, false, false, true, false, false] rfl rfl (by kernel_rfl) (fun _ _ _ h => h) (Or.inl ⟨(by rfl), ?_⟩) hHeld ?_ ?_
      rotate_left
      · rintro w' ⟨s0, s1⟩
        go_simp
        with_reducible rfl
      rotate_left
      · simp only [Act.put, List.setIfInBounds_toArray, List.set_cons_zero, List.set_cons_succ, i64_w, i32_w]
        rfl
      refine take_ (i := 3) (N := some 33) (v := ?_) (a' := ?_) #[true, true, false, true, true, false, false] rfl rfl (by kernel_rfl) (fun _ _ _ h => h) (Or.inl ⟨(by rfl), ?_⟩) hHeld ?_ ?_
      rotate_left
      · rintro w' ⟨s0, s1⟩
        go_simp
        with_reducible rfl
      rotate_left
      · simp only [Act.put, List.setIfInBounds_toArray, List.set_cons_zero, List.set_cons_succ, i64_w, i32_w]
        rfl
      refine one_ (i := 2) (N := some 32) #[true, true, true, true, true, false, false] rfl rfl (by kernel_rfl) (by decide) (fun K hK => ?_)
      refine goes_ Try.func47 (by kernel_rfl) rfl #[.agg #[.int .i64 a0_0, .slice A0_1 l0_1.length c0_1], .slice A1 l1.length c1] (by rfl) rfl rfl b3_ ?_
      with_reducible refine (pole_CheckMix.calls a0_0 _ _ l0_1 _ _ l1 t677 _ ?side1 ?side2 ?side3 ?side4 A18.out).mono ?_
      (case side1 => repeat (first | exact (Kd.C_below HR0_1.out HB.out) | (with_reducible refine Kd.C_alloc ?_ _) | (with_reducible refine Kd.C_drewN ?_ _) | (with_reducible refine Kd.C_drew ?_)))
      (case side2 => exact HC0_1.out)
      (case side3 => repeat (first | exact (Kd.C_below HR1.out HB.out) | (with_reducible refine Kd.C_alloc ?_ _) | (with_reducible refine Kd.C_drewN ?_ _) | (with_reducible refine Kd.C_drew ?_)))
      (case side4 => exact HC1.out)
      rintro e w61 ⟨rfl, hb⟩
      refine ⟨_, rfl, ?_⟩
      replace BK671 := bk_ BK671 hb
      replace HB := hB_ HB hb
      (try clear hb)
      (try clear hb2)
      (try clear hk)
      (try clear hi)
      refine hK.out _ _ ⟨(blk_cell BK671.out 0).trans rfl, (blk_cell BK671.out 1).trans rfl⟩ (fun hHeld => ?_)
      clear hK K
      refine nA_ (some 32) ?_
      refine one_ (i := 5) (N := some 35) #[true, true, true, true, true, true, false] rfl rfl (by kernel_rfl) (by decide) (fun K hK => ?_)
      refine goes_ Try.func48 (by kernel_rfl) rfl #[.agg #[.int .i64 a0_0, .slice A0_1 l0_1.length c0_1], .slice A1 l1.length c1] (by rfl) rfl rfl b3_ ?_
      with_reducible refine (forecourtref09_CheckMix.calls k2 a0_0 _ _ l0_1 _ _ l1 t678 _ ?side1 ?side2 ?side3 ?side4 A19.out).mono ?_
      (case side1 => repeat (first | exact (Kd.C_below HR0_1.out HB.out) | (with_reducible refine Kd.C_alloc ?_ _) | (with_reducible refine Kd.C_drewN ?_ _) | (with_reducible refine Kd.C_drew ?_)))
      (case side2 => exact HC0_1.out)
      (case side3 => repeat (first | exact (Kd.C_below HR1.out HB.out) | (with_reducible refine Kd.C_alloc ?_ _) | (with_reducible refine Kd.C_drewN ?_ _) | (with_reducible refine Kd.C_drew ?_)))
      (case side4 => exact HC1.out)
      rintro e w62 ⟨rfl, hb⟩
      refine ⟨_, rfl, ?_⟩
      replace BK671 := bk_ BK671 hb
      replace HB := hB_ HB hb
      (try clear hb)
      (try clear hb2)
      (try clear hk)
      (try clear hi)
      refine hK.out _ _ ⟨(blk_cell BK671.out 0).trans rfl, (blk_cell BK671.out 1).trans rfl⟩ (fun hHeld => ?_)
      clear hK K
      refine nA_ (some 35) ?_
      refine pure_ (i := 6) (N := some 36) (v := ?_) (a' := ?_) #[true, true, true, true, true, true, true] rfl rfl (by kernel_rfl) (fun _ _ _ h => h) (Or.inl ⟨(by rfl), ?_⟩) ?_ ?_
      rotate_left
      · intro w'
        go_simp
        with_reducible rfl
      rotate_left
      · simp only [Act.put, List.setIfInBounds_toArray, List.set_cons_zero, List.set_cons_succ, i64_w, i32_w]
        rfl
      refine done_ (by kernel_rfl) ?_
      obtain ⟨hcz63_0, hcz63_1, hfz63_0, hfz63_1⟩ := cz2_ BK671.out
      try go_wp2_with (first | ((with_reducible refine gate_callee (f := 49) rfl ?_); refine goesL_ (some 39) rfl rfl Try.func49 (by kernel_rfl) rfl #[.agg #[.int .i64 a0_0, .slice A0_1 l0_1.length c0_1]] rfl b3_ ?_; (with_reducible refine (pole_Mix.calls a0_0 _ _ l0_1 t679 t682 _ ?side1 ?side2 A21.out).mono ?_); (case side1 => repeat (first | exact (Kd.C_below HR0_1.out HB.out) | (with_reducible refine Kd.C_alloc ?_ _) | (with_reducible refine Kd.C_drewN ?_ _) | (with_reducible refine Kd.C_drew ?_))); (case side2 => exact HC0_1.out); rintro e w64 ⟨v680, rfl, ho0, hb⟩; refine ⟨_, rfl, ?_⟩; have HO681 := Aside0.mk (Kd.R_lower ho0 (below_size b1_)); replace BK671 := bk_ BK671 hb; replace HB := hB_ HB hb; (try clear hb); obtain ⟨hcz65_0, hcz65_1, hfz65_0, hfz65_1⟩ := cz2_ BK671.out) | ((with_reducible refine gate_callee (f := 29) rfl ?_); refine goesL_ (some 44) rfl rfl Try.func29 (by kernel_rfl) rfl #[.agg #[.int .i64 a0_0, .slice A0_1 l0_1.length c0_1]] rfl b3_ ?_; (with_reducible refine (forecourtref09_CheckTable.calls k2 a0_0 _ _ l0_1 t683 _ ?side1 ?side2 A22.out).mono ?_); (case side1 => repeat (first | exact (Kd.C_below HR0_1.out HB.out) | (with_reducible refine Kd.C_alloc ?_ _) | (with_reducible refine Kd.C_drewN ?_ _) | (with_reducible refine Kd.C_drew ?_))); (case side2 => exact HC0_1.out); rintro e w66 ⟨rfl, hb⟩; refine ⟨_, rfl, ?_⟩; replace HO681 := Aside0.mk (Kd.R_below b23_ hb); replace BK671 := bk_ BK671 hb; replace HB := hB_ HB hb; (try clear hb); obtain ⟨Ao67, co67, eo67⟩ := Kd.R_slice HO681.out; subst eo67))
      go_ret
      exact ⟨b4_, b1_⟩
    rw [if_pos c49] at H
    have c49b0 : ((t679.length : Int) == 0) = true := beq_iff_eq.mpr c49
    have c49b1 : ((t679.length : Int) != 0) = false := bne_eq_false_iff_eq.mpr c49
    clear c49
    replace H := Option.bind_eq_some_iff.mp H
    obtain ⟨t686, A500, H⟩ := H
    replace H : (some t686) = some r := H
    have A50 := Aside0.mk A500
    clear A500
    obtain rfl := Option.some.inj H
    try go_wp2
    replace BK671 := Aside0.mk (blk_drew BK671.out)
    replace HB := Aside0.mk (below_drew1 HB.out)
    refine start_ (n := 7) (S := fun w' => w'.cell? ⟨gb671, 0, none⟩ = some (.int .i64 a0_0) ∧ w'.cell? ⟨gb671, 1, none⟩ = some (.slice A0_1 l0_1.length c0_1)) (ds := []) #[false, false, false, false, false, false, false] (by kernel_rfl) rfl rfl ⟨(blk_cell BK671.out 0).trans rfl, (blk_cell BK671.out 1).trans rfl⟩ (fun hHeld => ?_)
    generalize wr.drew = w51 at BK671 HB hHeld ⊢
    refine pure_ (i := 1) (N := some 31) (v := ?_) (a' := ?_) #[false, true, false, false, false, false, false] rfl rfl (by kernel_rfl) (fun _ _ _ h => h) (Or.inl ⟨(by rfl), ?_⟩) ?_ ?_
    rotate_left
    · intro w'
      go_simp
      with_reducible rfl
    rotate_left
    · simp only [Act.put, List.setIfInBounds_toArray, List.set_cons_zero, List.set_cons_succ, i64_w, i32_w]
      rfl
    refine pure_ (i := 4) (N := some 34) (v := ?_) (a' := ?_) #[false, true, false, false, true, false, false] rfl rfl (by kernel_rfl) (fun _ _ _ h => h) (Or.inl ⟨(by rfl), ?_⟩) ?_ ?_
    rotate_left
    · intro w'
      go_simp
      with_reducible rfl
    rotate_left
    · simp only [Act.put, List.setIfInBounds_toArray, List.set_cons_zero, List.set_cons_succ, i64_w, i32_w]
      rfl
    refine take_ (i := 0) (N := some 30) (v := ?_) (a' := ?_) #[true, true, false, false, true, false, false] rfl rfl (by kernel_rfl) (fun _ _ _ h => h) (Or.inl ⟨(by rfl), ?_⟩) hHeld ?_ ?_
    rotate_left
    · rintro w' ⟨s0, s1⟩
      go_simp
      with_reducible rfl
    rotate_left
    · simp only [Act.put, List.setIfInBounds_toArray, List.set_cons_zero, List.set_cons_succ, i64_w, i32_w]
      rfl
    refine take_ (i := 3) (N := some 33) (v := ?_) (a' := ?_) #[true, true, false, true, true, false, false] rfl rfl (by kernel_rfl) (fun _ _ _ h => h) (Or.inl ⟨(by rfl), ?_⟩) hHeld ?_ ?_
    rotate_left
    · rintro w' ⟨s0, s1⟩
      go_simp
      with_reducible rfl
    rotate_left
    · simp only [Act.put, List.setIfInBounds_toArray, List.set_cons_zero, List.set_cons_succ, i64_w, i32_w]
      rfl
    refine one_ (i := 2) (N := some 32) #[true, true, true, true, true, false, false] rfl rfl (by kernel_rfl) (by decide) (fun K hK => ?_)
    refine goes_ Try.func47 (by kernel_rfl) rfl #[.agg #[.int .i64 a0_0, .slice A0_1 l0_1.length c0_1], .slice A1 l1.length c1] (by rfl) rfl rfl b3_ ?_
    with_reducible refine (pole_CheckMix.calls a0_0 _ _ l0_1 _ _ l1 t677 _ ?side1 ?side2 ?side3 ?side4 A18.out).mono ?_
    (case side1 => repeat (first | exact (Kd.C_below HR0_1.out HB.out) | (with_reducible refine Kd.C_alloc ?_ _) | (with_reducible refine Kd.C_drewN ?_ _) | (with_reducible refine Kd.C_drew ?_)))
    (case side2 => exact HC0_1.out)
    (case side3 => repeat (first | exact (Kd.C_below HR1.out HB.out) | (with_reducible refine Kd.C_alloc ?_ _) | (with_reducible refine Kd.C_drewN ?_ _) | (with_reducible refine Kd.C_drew ?_)))
    (case side4 => exact HC1.out)
    rintro e w52 ⟨rfl, hb⟩
    refine ⟨_, rfl, ?_⟩
    replace BK671 := bk_ BK671 hb
    replace HB := hB_ HB hb
    (try clear hb)
    (try clear hb2)
    (try clear hk)
    (try clear hi)
    refine hK.out _ _ ⟨(blk_cell BK671.out 0).trans rfl, (blk_cell BK671.out 1).trans rfl⟩ (fun hHeld => ?_)
    clear hK K
    refine nA_ (some 32) ?_
    refine one_ (i := 5) (N := some 35) #[true, true, true, true, true, true, false] rfl rfl (by kernel_rfl) (by decide) (fun K hK => ?_)
    refine goes_ Try.func48 (by kernel_rfl) rfl #[.agg #[.int .i64 a0_0, .slice A0_1 l0_1.length c0_1], .slice A1 l1.length c1] (by rfl) rfl rfl b3_ ?_
    with_reducible refine (forecourtref09_CheckMix.calls k2 a0_0 _ _ l0_1 _ _ l1 t678 _ ?side1 ?side2 ?side3 ?side4 A19.out).mono ?_
    (case side1 => repeat (first | exact (Kd.C_below HR0_1.out HB.out) | (with_reducible refine Kd.C_alloc ?_ _) | (with_reducible refine Kd.C_drewN ?_ _) | (with_reducible refine Kd.C_drew ?_)))
    (case side2 => exact HC0_1.out)
    (case side3 => repeat (first | exact (Kd.C_below HR1.out HB.out) | (with_reducible refine Kd.C_alloc ?_ _) | (with_reducible refine Kd.C_drewN ?_ _) | (with_reducible refine Kd.C_drew ?_)))
    (case side4 => exact HC1.out)
    rintro e w53 ⟨rfl, hb⟩
    refine ⟨_, rfl, ?_⟩
    replace BK671 := bk_ BK671 hb
    replace HB := hB_ HB hb
    (try clear hb)
    (try clear hb2)
    (try clear hk)
    (try clear hi)
    refine hK.out _ _ ⟨(blk_cell BK671.out 0).trans rfl, (blk_cell BK671.out 1).trans rfl⟩ (fun hHeld => ?_)
    clear hK K
    refine nA_ (some 35) ?_
    refine pure_ (i := 6) (N := some 36) (v := ?_) (a' := ?_) #[true, true, true, true, true, true, true] rfl rfl (by kernel_rfl) (fun _ _ _ h => h) (Or.inl ⟨(by rfl), ?_⟩) ?_ ?_
    rotate_left
    · intro w'
      go_simp
      with_reducible rfl
    rotate_left
    · simp only [Act.put, List.setIfInBounds_toArray, List.set_cons_zero, List.set_cons_succ, i64_w, i32_w]
      rfl
    refine done_ (by kernel_rfl) ?_
    obtain ⟨hcz54_0, hcz54_1, hfz54_0, hfz54_1⟩ := cz2_ BK671.out
    try go_wp2_with (first | ((with_reducible refine gate_callee (f := 49) rfl ?_); refine goesL_ (some 39) rfl rfl Try.func49 (by kernel_rfl) rfl #[.agg #[.int .i64 a0_0, .slice A0_1 l0_1.length c0_1]] rfl b3_ ?_; (with_reducible refine (pole_Mix.calls a0_0 _ _ l0_1 t679 t682 _ ?side1 ?side2 A21.out).mono ?_); (case side1 => repeat (first | exact (Kd.C_below HR0_1.out HB.out) | (with_reducible refine Kd.C_alloc ?_ _) | (with_reducible refine Kd.C_drewN ?_ _) | (with_reducible refine Kd.C_drew ?_))); (case side2 => exact HC0_1.out); rintro e w55 ⟨v680, rfl, ho0, hb⟩; refine ⟨_, rfl, ?_⟩; have HO681 := Aside0.mk (Kd.R_lower ho0 (below_size b1_)); replace BK671 := bk_ BK671 hb; replace HB := hB_ HB hb; (try clear hb); obtain ⟨hcz56_0, hcz56_1, hfz56_0, hfz56_1⟩ := cz2_ BK671.out) | ((with_reducible refine gate_callee (f := 29) rfl ?_); refine goesL_ (some 44) rfl rfl Try.func29 (by kernel_rfl) rfl #[.agg #[.int .i64 a0_0, .slice A0_1 l0_1.length c0_1]] rfl b3_ ?_; (with_reducible refine (forecourtref09_CheckTable.calls k2 a0_0 _ _ l0_1 t683 _ ?side1 ?side2 A22.out).mono ?_); (case side1 => repeat (first | exact (Kd.C_below HR0_1.out HB.out) | (with_reducible refine Kd.C_alloc ?_ _) | (with_reducible refine Kd.C_drewN ?_ _) | (with_reducible refine Kd.C_drew ?_))); (case side2 => exact HC0_1.out); rintro e w57 ⟨rfl, hb⟩; refine ⟨_, rfl, ?_⟩; replace HO681 := Aside0.mk (Kd.R_below b23_ hb); replace BK671 := bk_ BK671 hb; replace HB := hB_ HB hb; (try clear hb); obtain ⟨Ao58, co58, eo58⟩ := Kd.R_slice HO681.out; subst eo58) | (go_at_call 15; (with_reducible refine (forecourtlaw09_Works.calls  t686 _ A50.out).mono ?_); rintro e w59 ⟨rfl, hb⟩; replace HO681 := Aside0.mk (Kd.R_below b23_ hb); replace BK671 := bk_ BK671 hb; replace HB := hB_ HB hb; (try clear hb)))
    go_ret
    exact ⟨b4_, b1_⟩
  rw [if_pos c24] at H
  have c24b0 : (t682 == 0) = true := beq_iff_eq.mpr c24
  have c24b1 : (t682 != 0) = false := bne_eq_false_iff_eq.mpr c24
  clear c24
  replace H := Option.bind_eq_some_iff.mp H
  obtain ⟨t684, A250, H⟩ := H
  replace H : (if t684 = 0 then ((forecourtlaw09_Works.f).bind fun t685 => (some t685)) else (some false)) = some r := H
  have A25 := Aside0.mk A250
  clear A250
  by_cases c26 : t684 = 0
  rotate_left
  · rw [if_neg c26] at H
    have c26b0 : (t684 == 0) = false := beq_eq_false_iff_ne.mpr c26
    have c26b1 : (t684 != 0) = true := bne_iff_ne.mpr c26
    obtain rfl := Option.some.inj H
    try go_wp2
    replace BK671 := Aside0.mk (blk_drew BK671.out)
    replace HB := Aside0.mk (below_drew1 HB.out)
    refine start_ (n := 7) (S := fun w' => w'.cell? ⟨gb671, 0, none⟩ = some (.int .i64 a0_0) ∧ w'.cell? ⟨gb671, 1, none⟩ = some (.slice A0_1 l0_1.length c0_1)) (ds := []) #[false, false, false, false, false, false, false] (by kernel_rfl) rfl rfl ⟨(blk_cell BK671.out 0).trans rfl, (blk_cell BK671.out 1).trans rfl⟩ (fun hHeld => ?_)
    generalize wr.drew = w39 at BK671 HB hHeld ⊢
    refine pure_ (i := 1) (N := some 31) (v := ?_) (a' := ?_) #[false, true, false, false, false, false, false] rfl rfl (by kernel_rfl) (fun _ _ _ h => h) (Or.inl ⟨(by rfl), ?_⟩) ?_ ?_
    rotate_left
    · intro w'
      go_simp
      with_reducible rfl
    rotate_left
    · simp only [Act.put, List.setIfInBounds_toArray, List.set_cons_zero, List.set_cons_succ, i64_w, i32_w]
      rfl
    refine pure_ (i := 4) (N := some 34) (v := ?_) (a' := ?_) #[false, true, false, false, true, false, false] rfl rfl (by kernel_rfl) (fun _ _ _ h => h) (Or.inl ⟨(by rfl), ?_⟩) ?_ ?_
    rotate_left
    · intro w'
      go_simp
      with_reducible rfl
    rotate_left
    · simp only [Act.put, List.setIfInBounds_toArray, List.set_cons_zero, List.set_cons_succ, i64_w, i32_w]
      rfl
    refine take_ (i := 0) (N := some 30) (v := ?_) (a' := ?_) #[true, true, false, false, true, false, false] rfl rfl (by kernel_rfl) (fun _ _ _ h => h) (Or.inl ⟨(by rfl), ?_⟩) hHeld ?_ ?_
    rotate_left
    · rintro w' ⟨s0, s1⟩
      go_simp
      with_reducible rfl
    rotate_left
    · simp only [Act.put, List.setIfInBounds_toArray, List.set_cons_zero, List.set_cons_succ, i64_w, i32_w]
      rfl
    refine take_ (i := 3) (N := some 33) (v := ?_) (a' := ?_) #[true, true, false, true, true, false, false] rfl rfl (by kernel_rfl) (fun _ _ _ h => h) (Or.inl ⟨(by rfl), ?_⟩) hHeld ?_ ?_
    rotate_left
    · rintro w' ⟨s0, s1⟩
      go_simp
      with_reducible rfl
    rotate_left
    · simp only [Act.put, List.setIfInBounds_toArray, List.set_cons_zero, List.set_cons_succ, i64_w, i32_w]
      rfl
    refine one_ (i := 2) (N := some 32) #[true, true, true, true, true, false, false] rfl rfl (by kernel_rfl) (by decide) (fun K hK => ?_)
    refine goes_ Try.func47 (by kernel_rfl) rfl #[.agg #[.int .i64 a0_0, .slice A0_1 l0_1.length c0_1], .slice A1 l1.length c1] (by rfl) rfl rfl b3_ ?_
    with_reducible refine (pole_CheckMix.calls a0_0 _ _ l0_1 _ _ l1 t677 _ ?side1 ?side2 ?side3 ?side4 A18.out).mono ?_
    (case side1 => repeat (first | exact (Kd.C_below HR0_1.out HB.out) | (with_reducible refine Kd.C_alloc ?_ _) | (with_reducible refine Kd.C_drewN ?_ _) | (with_reducible refine Kd.C_drew ?_)))
    (case side2 => exact HC0_1.out)
    (case side3 => repeat (first | exact (Kd.C_below HR1.out HB.out) | (with_reducible refine Kd.C_alloc ?_ _) | (with_reducible refine Kd.C_drewN ?_ _) | (with_reducible refine Kd.C_drew ?_)))
    (case side4 => exact HC1.out)
    rintro e w40 ⟨rfl, hb⟩
    refine ⟨_, rfl, ?_⟩
    replace BK671 := bk_ BK671 hb
    replace HB := hB_ HB hb
    (try clear hb)
    (try clear hb2)
    (try clear hk)
    (try clear hi)
    refine hK.out _ _ ⟨(blk_cell BK671.out 0).trans rfl, (blk_cell BK671.out 1).trans rfl⟩ (fun hHeld => ?_)
    clear hK K
    refine nA_ (some 32) ?_
    refine one_ (i := 5) (N := some 35) #[true, true, true, true, true, true, false] rfl rfl (by kernel_rfl) (by decide) (fun K hK => ?_)
    refine goes_ Try.func48 (by kernel_rfl) rfl #[.agg #[.int .i64 a0_0, .slice A0_1 l0_1.length c0_1], .slice A1 l1.length c1] (by rfl) rfl rfl b3_ ?_
    with_reducible refine (forecourtref09_CheckMix.calls k2 a0_0 _ _ l0_1 _ _ l1 t678 _ ?side1 ?side2 ?side3 ?side4 A19.out).mono ?_
    (case side1 => repeat (first | exact (Kd.C_below HR0_1.out HB.out) | (with_reducible refine Kd.C_alloc ?_ _) | (with_reducible refine Kd.C_drewN ?_ _) | (with_reducible refine Kd.C_drew ?_)))
    (case side2 => exact HC0_1.out)
    (case side3 => repeat (first | exact (Kd.C_below HR1.out HB.out) | (with_reducible refine Kd.C_alloc ?_ _) | (with_reducible refine Kd.C_drewN ?_ _) | (with_reducible refine Kd.C_drew ?_)))
    (case side4 => exact HC1.out)
    rintro e w41 ⟨rfl, hb⟩
    refine ⟨_, rfl, ?_⟩
    replace BK671 := bk_ BK671 hb
    replace HB := hB_ HB hb
    (try clear hb)
    (try clear hb2)
    (try clear hk)
    (try clear hi)
    refine hK.out _ _ ⟨(blk_cell BK671.out 0).trans rfl, (blk_cell BK671.out 1).trans rfl⟩ (fun hHeld => ?_)
    clear hK K
    refine nA_ (some 35) ?_
    refine pure_ (i := 6) (N := some 36) (v := ?_) (a' := ?_) #[true, true, true, true, true, true, true] rfl rfl (by kernel_rfl) (fun _ _ _ h => h) (Or.inl ⟨(by rfl), ?_⟩) ?_ ?_
    rotate_left
    · intro w'
      go_simp
      with_reducible rfl
    rotate_left
    · simp only [Act.put, List.setIfInBounds_toArray, List.set_cons_zero, List.set_cons_succ, i64_w, i32_w]
      rfl
    refine done_ (by kernel_rfl) ?_
    obtain ⟨hcz42_0, hcz42_1, hfz42_0, hfz42_1⟩ := cz2_ BK671.out
    try go_wp2_with (first | ((with_reducible refine gate_callee (f := 49) rfl ?_); refine goesL_ (some 39) rfl rfl Try.func49 (by kernel_rfl) rfl #[.agg #[.int .i64 a0_0, .slice A0_1 l0_1.length c0_1]] rfl b3_ ?_; (with_reducible refine (pole_Mix.calls a0_0 _ _ l0_1 t679 t682 _ ?side1 ?side2 A21.out).mono ?_); (case side1 => repeat (first | exact (Kd.C_below HR0_1.out HB.out) | (with_reducible refine Kd.C_alloc ?_ _) | (with_reducible refine Kd.C_drewN ?_ _) | (with_reducible refine Kd.C_drew ?_))); (case side2 => exact HC0_1.out); rintro e w43 ⟨v680, rfl, ho0, hb⟩; refine ⟨_, rfl, ?_⟩; have HO681 := Aside0.mk (Kd.R_lower ho0 (below_size b1_)); replace BK671 := bk_ BK671 hb; replace HB := hB_ HB hb; (try clear hb); obtain ⟨hcz44_0, hcz44_1, hfz44_0, hfz44_1⟩ := cz2_ BK671.out) | ((with_reducible refine gate_callee (f := 29) rfl ?_); refine goesL_ (some 44) rfl rfl Try.func29 (by kernel_rfl) rfl #[.agg #[.int .i64 a0_0, .slice A0_1 l0_1.length c0_1]] rfl b3_ ?_; (with_reducible refine (forecourtref09_CheckTable.calls k2 a0_0 _ _ l0_1 t683 _ ?side1 ?side2 A22.out).mono ?_); (case side1 => repeat (first | exact (Kd.C_below HR0_1.out HB.out) | (with_reducible refine Kd.C_alloc ?_ _) | (with_reducible refine Kd.C_drewN ?_ _) | (with_reducible refine Kd.C_drew ?_))); (case side2 => exact HC0_1.out); rintro e w45 ⟨rfl, hb⟩; refine ⟨_, rfl, ?_⟩; replace HO681 := Aside0.mk (Kd.R_below b23_ hb); replace BK671 := bk_ BK671 hb; replace HB := hB_ HB hb; (try clear hb); obtain ⟨hcz46_0, hcz46_1, hfz46_0, hfz46_1⟩ := cz2_ BK671.out; obtain ⟨Ao47, co47, eo47⟩ := Kd.R_slice HO681.out; subst eo47) | ((with_reducible refine gate_callee (f := 48) rfl ?_); refine goesL_ (some 56) rfl rfl Try.func48 (by kernel_rfl) rfl #[.agg #[.int .i64 a0_0, .slice A0_1 l0_1.length c0_1], .slice Ao47 t679.length co47] rfl b3_ ?_; (with_reducible refine (forecourtref09_CheckMix.calls k2 a0_0 _ _ l0_1 _ _ t679 t684 _ ?side1 ?side2 ?side3 ?side4 A25.out).mono ?_); (case side1 => repeat (first | exact (Kd.C_below HR0_1.out HB.out) | (with_reducible refine Kd.C_alloc ?_ _) | (with_reducible refine Kd.C_drewN ?_ _) | (with_reducible refine Kd.C_drew ?_))); (case side2 => exact HC0_1.out); (case side3 => repeat (first | exact (Kd.R_reads' HO681.out).2.2 | (with_reducible refine Kd.C_alloc ?_ _) | (with_reducible refine Kd.C_drewN ?_ _) | (with_reducible refine Kd.C_drew ?_))); (case side4 => exact (Kd.R_reads' HO681.out).2.1); rintro e w48 ⟨rfl, hb⟩; refine ⟨_, rfl, ?_⟩; replace HO681 := Aside0.mk (Kd.R_below b23_ hb); replace BK671 := bk_ BK671 hb; replace HB := hB_ HB hb; (try clear hb)))
    go_ret
    exact ⟨b4_, b1_⟩
  rw [if_pos c26] at H
  have c26b0 : (t684 == 0) = true := beq_iff_eq.mpr c26
  have c26b1 : (t684 != 0) = false := bne_eq_false_iff_eq.mpr c26
  clear c26
  replace H := Option.bind_eq_some_iff.mp H
  obtain ⟨t685, A270, H⟩ := H
  replace H : (some t685) = some r := H
  have A27 := Aside0.mk A270
  clear A270
  obtain rfl := Option.some.inj H
  try go_wp2
  replace BK671 := Aside0.mk (blk_drew BK671.out)
  replace HB := Aside0.mk (below_drew1 HB.out)
  refine start_ (n := 7) (S := fun w' => w'.cell? ⟨gb671, 0, none⟩ = some (.int .i64 a0_0) ∧ w'.cell? ⟨gb671, 1, none⟩ = some (.slice A0_1 l0_1.length c0_1)) (ds := []) #[false, false, false, false, false, false, false] (by kernel_rfl) rfl rfl ⟨(blk_cell BK671.out 0).trans rfl, (blk_cell BK671.out 1).trans rfl⟩ (fun hHeld => ?_)
  generalize wr.drew = w28 at BK671 HB hHeld ⊢
  refine pure_ (i := 1) (N := some 31) (v := ?_) (a' := ?_) #[false, true, false, false, false, false, false] rfl rfl (by kernel_rfl) (fun _ _ _ h => h) (Or.inl ⟨(by rfl), ?_⟩) ?_ ?_
  rotate_left
  · intro w'
    go_simp
    with_reducible rfl
  rotate_left
  · simp only [Act.put, List.setIfInBounds_toArray, List.set_cons_zero, List.set_cons_succ, i64_w, i32_w]
    rfl
  refine pure_ (i := 4) (N := some 34) (v := ?_) (a' := ?_) #[false, true, false, false, true, false, false] rfl rfl (by kernel_rfl) (fun _ _ _ h => h) (Or.inl ⟨(by rfl), ?_⟩) ?_ ?_
  rotate_left
  · intro w'
    go_simp
    with_reducible rfl
  rotate_left
  · simp only [Act.put, List.setIfInBounds_toArray, List.set_cons_zero, List.set_cons_succ, i64_w, i32_w]
    rfl
  refine take_ (i := 0) (N := some 30) (v := ?_) (a' := ?_) #[true, true, false, false, true, false, false] rfl rfl (by kernel_rfl) (fun _ _ _ h => h) (Or.inl ⟨(by rfl), ?_⟩) hHeld ?_ ?_
  rotate_left
  · rintro w' ⟨s0, s1⟩
    go_simp
    with_reducible rfl
  rotate_left
  · simp only [Act.put, List.setIfInBounds_toArray, List.set_cons_zero, List.set_cons_succ, i64_w, i32_w]
    rfl
  refine take_ (i := 3) (N := some 33) (v := ?_) (a' := ?_) #[true, true, false, true, true, false, false] rfl rfl (by kernel_rfl) (fun _ _ _ h => h) (Or.inl ⟨(by rfl), ?_⟩) hHeld ?_ ?_
  rotate_left
  · rintro w' ⟨s0, s1⟩
    go_simp
    with_reducible rfl
  rotate_left
  · simp only [Act.put, List.setIfInBounds_toArray, List.set_cons_zero, List.set_cons_succ, i64_w, i32_w]
    rfl
  refine one_ (i := 2) (N := some 32) #[true, true, true, true, true, false, false] rfl rfl (by kernel_rfl) (by decide) (fun K hK => ?_)
  refine goes_ Try.func47 (by kernel_rfl) rfl #[.agg #[.int .i64 a0_0, .slice A0_1 l0_1.length c0_1], .slice A1 l1.length c1] (by rfl) rfl rfl b3_ ?_
  with_reducible refine (pole_CheckMix.calls a0_0 _ _ l0_1 _ _ l1 t677 _ ?side1 ?side2 ?side3 ?side4 A18.out).mono ?_
  (case side1 => repeat (first | exact (Kd.C_below HR0_1.out HB.out) | (with_reducible refine Kd.C_alloc ?_ _) | (with_reducible refine Kd.C_drewN ?_ _) | (with_reducible refine Kd.C_drew ?_)))
  (case side2 => exact HC0_1.out)
  (case side3 => repeat (first | exact (Kd.C_below HR1.out HB.out) | (with_reducible refine Kd.C_alloc ?_ _) | (with_reducible refine Kd.C_drewN ?_ _) | (with_reducible refine Kd.C_drew ?_)))
  (case side4 => exact HC1.out)
  rintro e w29 ⟨rfl, hb⟩
  refine ⟨_, rfl, ?_⟩
  replace BK671 := bk_ BK671 hb
  replace HB := hB_ HB hb
  (try clear hb)
  (try clear hb2)
  (try clear hk)
  (try clear hi)
  refine hK.out _ _ ⟨(blk_cell BK671.out 0).trans rfl, (blk_cell BK671.out 1).trans rfl⟩ (fun hHeld => ?_)
  clear hK K
  refine nA_ (some 32) ?_
  refine one_ (i := 5) (N := some 35) #[true, true, true, true, true, true, false] rfl rfl (by kernel_rfl) (by decide) (fun K hK => ?_)
  refine goes_ Try.func48 (by kernel_rfl) rfl #[.agg #[.int .i64 a0_0, .slice A0_1 l0_1.length c0_1], .slice A1 l1.length c1] (by rfl) rfl rfl b3_ ?_
  with_reducible refine (forecourtref09_CheckMix.calls k2 a0_0 _ _ l0_1 _ _ l1 t678 _ ?side1 ?side2 ?side3 ?side4 A19.out).mono ?_
  (case side1 => repeat (first | exact (Kd.C_below HR0_1.out HB.out) | (with_reducible refine Kd.C_alloc ?_ _) | (with_reducible refine Kd.C_drewN ?_ _) | (with_reducible refine Kd.C_drew ?_)))
  (case side2 => exact HC0_1.out)
  (case side3 => repeat (first | exact (Kd.C_below HR1.out HB.out) | (with_reducible refine Kd.C_alloc ?_ _) | (with_reducible refine Kd.C_drewN ?_ _) | (with_reducible refine Kd.C_drew ?_)))
  (case side4 => exact HC1.out)
  rintro e w30 ⟨rfl, hb⟩
  refine ⟨_, rfl, ?_⟩
  replace BK671 := bk_ BK671 hb
  replace HB := hB_ HB hb
  (try clear hb)
  (try clear hb2)
  (try clear hk)
  (try clear hi)
  refine hK.out _ _ ⟨(blk_cell BK671.out 0).trans rfl, (blk_cell BK671.out 1).trans rfl⟩ (fun hHeld => ?_)
  clear hK K
  refine nA_ (some 35) ?_
  refine pure_ (i := 6) (N := some 36) (v := ?_) (a' := ?_) #[true, true, true, true, true, true, true] rfl rfl (by kernel_rfl) (fun _ _ _ h => h) (Or.inl ⟨(by rfl), ?_⟩) ?_ ?_
  rotate_left
  · intro w'
    go_simp
    with_reducible rfl
  rotate_left
  · simp only [Act.put, List.setIfInBounds_toArray, List.set_cons_zero, List.set_cons_succ, i64_w, i32_w]
    rfl
  refine done_ (by kernel_rfl) ?_
  obtain ⟨hcz31_0, hcz31_1, hfz31_0, hfz31_1⟩ := cz2_ BK671.out
  try go_wp2_with (first | ((with_reducible refine gate_callee (f := 49) rfl ?_); refine goesL_ (some 39) rfl rfl Try.func49 (by kernel_rfl) rfl #[.agg #[.int .i64 a0_0, .slice A0_1 l0_1.length c0_1]] rfl b3_ ?_; (with_reducible refine (pole_Mix.calls a0_0 _ _ l0_1 t679 t682 _ ?side1 ?side2 A21.out).mono ?_); (case side1 => repeat (first | exact (Kd.C_below HR0_1.out HB.out) | (with_reducible refine Kd.C_alloc ?_ _) | (with_reducible refine Kd.C_drewN ?_ _) | (with_reducible refine Kd.C_drew ?_))); (case side2 => exact HC0_1.out); rintro e w32 ⟨v680, rfl, ho0, hb⟩; refine ⟨_, rfl, ?_⟩; have HO681 := Aside0.mk (Kd.R_lower ho0 (below_size b1_)); replace BK671 := bk_ BK671 hb; replace HB := hB_ HB hb; (try clear hb); obtain ⟨hcz33_0, hcz33_1, hfz33_0, hfz33_1⟩ := cz2_ BK671.out) | ((with_reducible refine gate_callee (f := 29) rfl ?_); refine goesL_ (some 44) rfl rfl Try.func29 (by kernel_rfl) rfl #[.agg #[.int .i64 a0_0, .slice A0_1 l0_1.length c0_1]] rfl b3_ ?_; (with_reducible refine (forecourtref09_CheckTable.calls k2 a0_0 _ _ l0_1 t683 _ ?side1 ?side2 A22.out).mono ?_); (case side1 => repeat (first | exact (Kd.C_below HR0_1.out HB.out) | (with_reducible refine Kd.C_alloc ?_ _) | (with_reducible refine Kd.C_drewN ?_ _) | (with_reducible refine Kd.C_drew ?_))); (case side2 => exact HC0_1.out); rintro e w34 ⟨rfl, hb⟩; refine ⟨_, rfl, ?_⟩; replace HO681 := Aside0.mk (Kd.R_below b23_ hb); replace BK671 := bk_ BK671 hb; replace HB := hB_ HB hb; (try clear hb); obtain ⟨hcz35_0, hcz35_1, hfz35_0, hfz35_1⟩ := cz2_ BK671.out; obtain ⟨Ao36, co36, eo36⟩ := Kd.R_slice HO681.out; subst eo36) | ((with_reducible refine gate_callee (f := 48) rfl ?_); refine goesL_ (some 56) rfl rfl Try.func48 (by kernel_rfl) rfl #[.agg #[.int .i64 a0_0, .slice A0_1 l0_1.length c0_1], .slice Ao36 t679.length co36] rfl b3_ ?_; (with_reducible refine (forecourtref09_CheckMix.calls k2 a0_0 _ _ l0_1 _ _ t679 t684 _ ?side1 ?side2 ?side3 ?side4 A25.out).mono ?_); (case side1 => repeat (first | exact (Kd.C_below HR0_1.out HB.out) | (with_reducible refine Kd.C_alloc ?_ _) | (with_reducible refine Kd.C_drewN ?_ _) | (with_reducible refine Kd.C_drew ?_))); (case side2 => exact HC0_1.out); (case side3 => repeat (first | exact (Kd.R_reads' HO681.out).2.2 | (with_reducible refine Kd.C_alloc ?_ _) | (with_reducible refine Kd.C_drewN ?_ _) | (with_reducible refine Kd.C_drew ?_))); (case side4 => exact (Kd.R_reads' HO681.out).2.1); rintro e w37 ⟨rfl, hb⟩; refine ⟨_, rfl, ?_⟩; replace HO681 := Aside0.mk (Kd.R_below b23_ hb); replace BK671 := bk_ BK671 hb; replace HB := hB_ HB hb; (try clear hb)) | (go_at_call 15; (with_reducible refine (forecourtlaw09_Works.calls  t685 _ A27.out).mono ?_); rintro e w38 ⟨rfl, hb⟩; replace HO681 := Aside0.mk (Kd.R_below b23_ hb); replace BK671 := bk_ BK671 hb; replace HB := hB_ HB hb; (try clear hb)))
  go_ret
  exact ⟨b4_, b1_⟩

end Go.Proofs.Ytcgdbjojjpoegaa.P

/- The plain law of PoleMixes: the printed function answers yes. -/
namespace Go.Proofs.Ytcgdbjojjpoegaa.P
open Go.RowKit
set_option linter.unusedVariables false
set_option linter.unusedSimpArgs false
theorem poleMixes_l0 (den : Int) (l : List (List Int)) (ps : List S71) (hp : ps.length ≤ 70) : ∀ (k i : Nat), i ≤ ps.length → (ps.length - i) + 3001 ≤ k → forecourtlaw09_PoleMixes.l0 k ps (i : Int) den l = some true
  | 0, i => fun hi hk => by omega
  | k + 1, i => fun hi hk => by
    rw [forecourtlaw09_PoleMixes.l0]
    by_cases hlt : i < ps.length
    · obtain ⟨b, hb⟩ := long_some ((rd_T71 ps (i : Int)).f1) k (by omega)
      rw [if_pos (by omega), if_pos (by omega), hb, Option.bind_some]
      cases b
      · rw [if_neg (by decide), wrapS i (by omega)]
        exact poleMixes_l0 den l ps hp k (i + 1) (by omega) (by omega)
      · rfl
    · rw [if_neg (by omega), refCM den l ps k (by omega), show pole_CheckMix.f den l ps = some (mixE den l ps) from rfl, Option.bind_some, Option.bind_some, if_pos rfl, refCT den l k (by omega)]
      by_cases h : tableE den l = 0
      · obtain ⟨xs, h1, h2, h3, h4⟩ := pole_Mix_eq h
        rw [h1]
        simp only [Option.bind_some]
        rw [if_pos h.symm, if_pos trivial, refCM den l xs k (by omega), mixE_parts h h2 h3 h4]
        rfl
      · have h1 : pole_Mix.f den l = some ([], tableE den l) := by
          unfold pole_Mix.f
          rw [if_pos h]
        rw [h1]
        simp only [Option.bind_some]
        rw [if_pos trivial, if_neg h]
        rfl
theorem poleMixes_j0 (den : Int) (l : List (List Int)) (ps : List S71) (b : Bool) (hb : b = true ∨ ps.length ≤ 70) (k : Nat) (hk : 4000 ≤ k) : forecourtlaw09_PoleMixes.j0 k ps b den l = some true := by
  obtain ⟨k, rfl⟩ : ∃ k', k = k' + 1 := ⟨k - 1, by omega⟩
  rw [forecourtlaw09_PoleMixes.j0]
  split
  · rfl
  · rename_i hn
    rcases hb with hb | hb
    · exact absurd hb hn
    · exact poleMixes_l0 den l ps hb k 0 (by omega) (by omega)
theorem Pure.PoleMixes (den : Int) (l : List (List Int)) (ps : List S71) (_ : I64 den) (_ : ∀ x ∈ l, ∀ y ∈ x, I64 y) (_ : ∀ x ∈ ps, I64 x.f0 ∧ ∀ y ∈ x.f1, ∀ z ∈ y, I64 z) : ∃ k, forecourtlaw09_PoleMixes.f k den l ps = some true := by
  refine ⟨5000, ?_⟩
  unfold forecourtlaw09_PoleMixes.f
  obtain ⟨b, h1⟩ := long_some l 5000 (by omega)
  rw [h1, Option.bind_some]
  split
  · exact poleMixes_j0 den l ps true (Or.inl rfl) 5000 (by omega)
  · refine poleMixes_j0 den l ps _ ?_ 5000 (by omega)
    by_cases h : ps.length ≤ 70
    · exact Or.inr h
    · exact Or.inl (decide_eq_true (by omega))
end Go.Proofs.Ytcgdbjojjpoegaa.P

namespace Go.Proofs.Ytcgdbjojjpoegaa.P
open Go.RowKit Go.ChangeShapes Go.WideShapes Go.Deep Go.Joins Go.Proofs.YtcgdbjojjpoegaaW.PrintWords Go.Proofs.YtcgdbjojjpoegaaW.PrintLast Go.Proofs.YtcgdbjojjpoegaaW.PrintMore Go.Proofs.YtcgdbjojjpoegaaK
set_option maxRecDepth 100000
theorem opens48 : Opens Try.prog 48 (Kd.slice 2 (Kd.int .i64)) (fun x => ∀ y ∈ x, I64 y) := by
  intro H enc w base spare held fuel cs x h
  obtain ⟨A, c, l, rfl, hl, hC, hok⟩ := opens_slice (d := Kd.int .i64) Try.underlying48 (by kernel_rfl) opens2 h
  exact ⟨l, ⟨A, c, rfl, hl, hC⟩, hok⟩
/-- A table that was passed. -/
theorem arg_table {H : Type} {enc : TypeId × Value → H} {w : World} {r : Reach} {b0 : Nat} {spare : Nat → Bool} {v : Value} {dd : DataW H} {p : List MemPlace} (hv : Value.okWide Try.prog w r b0 39 v) (h : DataW.Trod enc Try.prog w 0 spare true 39 v dd p) :
    ∃ (a : Int) (A : Option Addr) (c : Nat) (l : List (List Int)), v = .agg #[.int .i64 a, .slice A l.length c] ∧ I64 a ∧ l.length ≤ c ∧ Kd.C (Kd.slice 2 (Kd.int .i64)) w A l.length l ∧ ∀ x ∈ l, ∀ y ∈ x, I64 y := by
  obtain ⟨v0, v1, y0, y1, n, rfl, rfl, rfl, h0, h1⟩ := open_agg2 Try.underlying39 (by kernel_rfl) (by kernel_rfl) hv h
  obtain ⟨a, e0, _, wa⟩ := DataW.trod_int Try.underlying2 h0
  obtain ⟨A, c, l, e1, hl, hC, hok⟩ := opens_slice (d := Kd.slice 2 (Kd.int .i64)) Try.underlying37 (by kernel_rfl) opens48 h1
  simp only [List.cons.injEq, and_true] at e0 e1
  subst e0 e1
  exact ⟨a, A, c, l, rfl, wa, hl, hC, hok⟩
end Go.Proofs.Ytcgdbjojjpoegaa.P

namespace Go.Proofs.Ytcgdbjojjpoegaa.P
open Go.RowKit Go.ChangeShapes Go.WideShapes Go.Deep Go.Joins Go.Proofs.YtcgdbjojjpoegaaW.PrintWords Go.Proofs.YtcgdbjojjpoegaaW.PrintLast Go.Proofs.YtcgdbjojjpoegaaW.PrintMore Go.Proofs.YtcgdbjojjpoegaaK
set_option maxRecDepth 100000
theorem opens37 : Opens Try.prog 37 (Kd.slice 48 (Kd.slice 2 (Kd.int .i64))) (fun x => ∀ y ∈ x, ∀ z ∈ y, I64 z) := by
  intro H enc w base spare held fuel cs x h
  obtain ⟨A, c, l, rfl, hl, hC, hok⟩ := opens_slice (d := Kd.slice 2 (Kd.int .i64)) Try.underlying37 (by kernel_rfl) opens48 h
  exact ⟨l, ⟨A, c, rfl, hl, hC⟩, hok⟩
theorem opens71 : Opens Try.prog 71 k71 (fun x => I64 x.f0 ∧ ∀ y ∈ x.f1, ∀ z ∈ y, I64 z) :=
  opens_two (s0 := 1) (s1 := 1) Try.underlying71 rfl rfl (by kernel_rfl) (by kernel_rfl) (by kernel_rfl) opens2 opens37 _ _ (fun w a b x y ha hb oa ob => ⟨⟨a, b⟩, ⟨x, y, rfl, ha, hb⟩, oa, ob⟩)
/-- Parts of a mixture that were passed. -/
theorem arg_parts {H : Type} {enc : TypeId × Value → H} {w : World} {r : Reach} {b0 : Nat} {spare : Nat → Bool} {v : Value} {dd : DataW H} {p : List MemPlace} (hv : Value.okWide Try.prog w r b0 69 v) (h : DataW.Trod enc Try.prog w 0 spare true 69 v dd p) :
    ∃ (A : Option Addr) (c : Nat) (l : List S71), v = .slice A l.length c ∧ l.length ≤ c ∧ Kd.C k71 w A l.length l ∧ ∀ x ∈ l, I64 x.f0 ∧ ∀ y ∈ x.f1, ∀ z ∈ y, I64 z := arg_slice (d := k71) Try.underlying69 (by kernel_rfl) opens71 hv h
end Go.Proofs.Ytcgdbjojjpoegaa.P

