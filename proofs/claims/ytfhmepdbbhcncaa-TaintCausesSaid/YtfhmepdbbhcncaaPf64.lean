-- PRINTED by print.py (a twelfth state) out of the translation. Not trusted: Lean checks it.
import Derived.Test.YtfhmepdbbhcncaaPx0
namespace Go.Proofs.Ytfhmepdbbhcncaa.P
open Go.RowKit Go.Proofs.YtfhmepdbbhcncaaW.PrintWords Go.Proofs.YtfhmepdbbhcncaaW.PrintLast
set_option linter.unusedVariables false
set_option linter.unusedSimpArgs false

/-! ### forecourtref05_arrivals: function 64 -/
mutual
def forecourtref05_arrivals.l0 : Nat → Bool → Int → List Int → Int → Int → List (S58) → Int → Int → Option (List Int)
  | 0, _, _, _, _, _, _, _, _ => none
  | k + 1, x2, x3, x9, x10, x310000, x310001, x311000, x311001 => if x10 < (x9.length : Int) then (if 0 ≤ x10 then (forecourtref05_arrivals.l0 k x2 x3 (x9.set (x10 : Int).toNat 1048576) (wrap64 (x10 + 1)) x310000 x310001 x311000 x311001) else (none)) else (if 0 ≤ x311000 then (if x311000 < (x9.length : Int) then (forecourtref05_arrivals.l1 k x2 x3 (x9.set (x311000 : Int).toNat x311001) 0 x310000 x310001) else (none)) else (none))
def forecourtref05_arrivals.l1 : Nat → Bool → Int → List Int → Int → Int → List (S58) → Option (List Int)
  | 0, _, _, _, _, _, _ => none
  | k + 1, x2, x3, x9, x11, x310000, x310001 => if x11 < x310000 then (forecourtref05_arrivals.l2 k x2 x3 x9 x11 0 x310000 x310001) else (some x9)
def forecourtref05_arrivals.l2 : Nat → Bool → Int → List Int → Int → Int → Int → List (S58) → Option (List Int)
  | 0, _, _, _, _, _, _, _ => none
  | k + 1, x2, x3, x9, x11, x12, x310000, x310001 => if x12 < (x310001.length : Int) then (if 0 ≤ x12 then (if ((rd_T58 x310001 x12).f1) = x3 then (forecourtref05_arrivals.l2 k x2 x3 x9 x11 (wrap64 (x12 + 1)) x310000 x310001) else (if 0 ≤ ((rd_T58 x310001 x12).f0) then (if ((rd_T58 x310001 x12).f0) < (x9.length : Int) then (if x2 = true then (forecourtref05_arrivals.j3 k x2 x3 x9 x11 x12 (rd x9 ((rd_T58 x310001 x12).f0)) (decide ((rd x9 ((rd_T58 x310001 x12).f0)) ≤ ((rd_T58 x310001 x12).f2.f0))) x310000 x310001 ((rd_T58 x310001 x12).f0) ((rd_T58 x310001 x12).f1) ((rd_T58 x310001 x12).f2.f0) ((rd_T58 x310001 x12).f2.f1)) else (forecourtref05_arrivals.j3 k x2 x3 x9 x11 x12 (rd x9 ((rd_T58 x310001 x12).f0)) false x310000 x310001 ((rd_T58 x310001 x12).f0) ((rd_T58 x310001 x12).f1) ((rd_T58 x310001 x12).f2.f0) ((rd_T58 x310001 x12).f2.f1))) else (none)) else (none))) else (none)) else (forecourtref05_arrivals.l1 k x2 x3 x9 (wrap64 (x11 + 1)) x310000 x310001)
def forecourtref05_arrivals.j3 : Nat → Bool → Int → List Int → Int → Int → Int → Bool → Int → List (S58) → Int → Int → Int → Int → Option (List Int)
  | 0, _, _, _, _, _, _, _, _, _, _, _, _, _ => none
  | k + 1, x2, x3, x9, x11, x12, x14, x67, x310000, x310001, x318000, x318001, x318002, x318003 => if x67 = true then (if 0 ≤ x318001 then (if x318001 < (x9.length : Int) then ((some (x9.set (x318001 : Int).toNat (mn (rd x9 x318001) x318003) : List Int)).bind fun y320 => (if x2 = true then (forecourtref05_arrivals.l2 k x2 x3 y320 x11 (wrap64 (x12 + 1)) x310000 x310001) else (if x14 ≤ x318003 then (forecourtref05_arrivals.l2 k x2 x3 (y320.set (x318001 : Int).toNat (mn (rd y320 x318001) (mx x14 x318002))) x11 (wrap64 (x12 + 1)) x310000 x310001) else (forecourtref05_arrivals.l2 k x2 x3 y320 x11 (wrap64 (x12 + 1)) x310000 x310001)))) else (none)) else (none)) else (if x2 = true then (forecourtref05_arrivals.l2 k x2 x3 x9 x11 (wrap64 (x12 + 1)) x310000 x310001) else (if x14 ≤ x318003 then (if 0 ≤ x318001 then (if x318001 < (x9.length : Int) then (forecourtref05_arrivals.l2 k x2 x3 (x9.set (x318001 : Int).toNat (mn (rd x9 x318001) (mx x14 x318002))) x11 (wrap64 (x12 + 1)) x310000 x310001) else (none)) else (none)) else (forecourtref05_arrivals.l2 k x2 x3 x9 x11 (wrap64 (x12 + 1)) x310000 x310001)))
end
def forecourtref05_arrivals.f (k : Nat) (a0_0 : Int) (l0_1 : List (S58)) (a1_0 : Int) (a1_1 : Int) (a2 : Bool) (a3 : Int) : Option (List Int) := if 0 ≤ a0_0 then (if (a0_0 : Int).toNat ≤ 35184372088832 then (forecourtref05_arrivals.l0 k a2 a3 (List.replicate (a0_0 : Int).toNat 0) 0 a0_0 l0_1 a1_0 a1_1) else (none)) else (none)
theorem forecourtref05_arrivals.mono_l : ∀ k, (∀ y0 y1 y2 y3 y4 y5 y6 y7, LeO (forecourtref05_arrivals.l0 k y0 y1 y2 y3 y4 y5 y6 y7) (forecourtref05_arrivals.l0 (k + 1) y0 y1 y2 y3 y4 y5 y6 y7)) ∧ (∀ y0 y1 y2 y3 y4 y5, LeO (forecourtref05_arrivals.l1 k y0 y1 y2 y3 y4 y5) (forecourtref05_arrivals.l1 (k + 1) y0 y1 y2 y3 y4 y5)) ∧ (∀ y0 y1 y2 y3 y4 y5 y6, LeO (forecourtref05_arrivals.l2 k y0 y1 y2 y3 y4 y5 y6) (forecourtref05_arrivals.l2 (k + 1) y0 y1 y2 y3 y4 y5 y6)) ∧ (∀ y0 y1 y2 y3 y4 y5 y6 y7 y8 y9 y10 y11 y12, LeO (forecourtref05_arrivals.j3 k y0 y1 y2 y3 y4 y5 y6 y7 y8 y9 y10 y11 y12) (forecourtref05_arrivals.j3 (k + 1) y0 y1 y2 y3 y4 y5 y6 y7 y8 y9 y10 y11 y12))
  | 0 => ⟨fun _ _ _ _ _ _ _ _ r h => by simp [forecourtref05_arrivals.l0] at h, fun _ _ _ _ _ _ r h => by simp [forecourtref05_arrivals.l1] at h, fun _ _ _ _ _ _ _ r h => by simp [forecourtref05_arrivals.l2] at h, fun _ _ _ _ _ _ _ _ _ _ _ _ _ r h => by simp [forecourtref05_arrivals.j3] at h⟩
  | k + 1 => by
    obtain ⟨ih0, ih1, ih2, ih3⟩ := forecourtref05_arrivals.mono_l k
    refine ⟨?_, ?_, ?_, ?_⟩
    · intro y0 y1 y2 y3 y4 y5 y6 y7
      unfold forecourtref05_arrivals.l0
      repeat' first
      | (with_reducible exact ih0 _ _ _ _ _ _ _ _)
      | (with_reducible exact ih1 _ _ _ _ _ _)
      | (with_reducible exact ih2 _ _ _ _ _ _ _)
      | (with_reducible exact ih3 _ _ _ _ _ _ _ _ _ _ _ _ _)
      | (with_reducible exact LeO.refl _)
      | (with_reducible exact LeO.none _)
      | (with_reducible refine LeO.ite ?_ ?_)
      | (with_reducible refine LeO.bind ?_ (fun _ => ?_))
      | exact ih0 _ _ _ _ _ _ _ _
      | exact ih1 _ _ _ _ _ _
      | exact ih2 _ _ _ _ _ _ _
      | exact ih3 _ _ _ _ _ _ _ _ _ _ _ _ _
      | exact LeO.none _
      | refine LeO.ite ?_ ?_
      | refine LeO.bind ?_ (fun _ => ?_)
    · intro y0 y1 y2 y3 y4 y5
      unfold forecourtref05_arrivals.l1
      repeat' first
      | (with_reducible exact ih0 _ _ _ _ _ _ _ _)
      | (with_reducible exact ih1 _ _ _ _ _ _)
      | (with_reducible exact ih2 _ _ _ _ _ _ _)
      | (with_reducible exact ih3 _ _ _ _ _ _ _ _ _ _ _ _ _)
      | (with_reducible exact LeO.refl _)
      | (with_reducible exact LeO.none _)
      | (with_reducible refine LeO.ite ?_ ?_)
      | (with_reducible refine LeO.bind ?_ (fun _ => ?_))
      | exact ih0 _ _ _ _ _ _ _ _
      | exact ih1 _ _ _ _ _ _
      | exact ih2 _ _ _ _ _ _ _
      | exact ih3 _ _ _ _ _ _ _ _ _ _ _ _ _
      | exact LeO.none _
      | refine LeO.ite ?_ ?_
      | refine LeO.bind ?_ (fun _ => ?_)
    · intro y0 y1 y2 y3 y4 y5 y6
      unfold forecourtref05_arrivals.l2
      repeat' first
      | (with_reducible exact ih0 _ _ _ _ _ _ _ _)
      | (with_reducible exact ih1 _ _ _ _ _ _)
      | (with_reducible exact ih2 _ _ _ _ _ _ _)
      | (with_reducible exact ih3 _ _ _ _ _ _ _ _ _ _ _ _ _)
      | (with_reducible exact LeO.refl _)
      | (with_reducible exact LeO.none _)
      | (with_reducible refine LeO.ite ?_ ?_)
      | (with_reducible refine LeO.bind ?_ (fun _ => ?_))
      | exact ih0 _ _ _ _ _ _ _ _
      | exact ih1 _ _ _ _ _ _
      | exact ih2 _ _ _ _ _ _ _
      | exact ih3 _ _ _ _ _ _ _ _ _ _ _ _ _
      | exact LeO.none _
      | refine LeO.ite ?_ ?_
      | refine LeO.bind ?_ (fun _ => ?_)
    · intro y0 y1 y2 y3 y4 y5 y6 y7 y8 y9 y10 y11 y12
      unfold forecourtref05_arrivals.j3
      repeat' first
      | (with_reducible exact ih0 _ _ _ _ _ _ _ _)
      | (with_reducible exact ih1 _ _ _ _ _ _)
      | (with_reducible exact ih2 _ _ _ _ _ _ _)
      | (with_reducible exact ih3 _ _ _ _ _ _ _ _ _ _ _ _ _)
      | (with_reducible exact LeO.refl _)
      | (with_reducible exact LeO.none _)
      | (with_reducible refine LeO.ite ?_ ?_)
      | (with_reducible refine LeO.bind ?_ (fun _ => ?_))
      | exact ih0 _ _ _ _ _ _ _ _
      | exact ih1 _ _ _ _ _ _
      | exact ih2 _ _ _ _ _ _ _
      | exact ih3 _ _ _ _ _ _ _ _ _ _ _ _ _
      | exact LeO.none _
      | refine LeO.ite ?_ ?_
      | refine LeO.bind ?_ (fun _ => ?_)
theorem forecourtref05_arrivals.mono : ∀ a0 a1 a2 a3 a4 a5 k, LeO (forecourtref05_arrivals.f k a0 a1 a2 a3 a4 a5) (forecourtref05_arrivals.f (k + 1) a0 a1 a2 a3 a4 a5) := by
  intro a0 a1 a2 a3 a4 a5 k
  obtain ⟨ih0, ih1, ih2, ih3⟩ := forecourtref05_arrivals.mono_l k
  unfold forecourtref05_arrivals.f
  repeat' first
      | (with_reducible exact ih0 _ _ _ _ _ _ _ _)
      | (with_reducible exact ih1 _ _ _ _ _ _)
      | (with_reducible exact ih2 _ _ _ _ _ _ _)
      | (with_reducible exact ih3 _ _ _ _ _ _ _ _ _ _ _ _ _)
      | (with_reducible exact LeO.refl _)
      | (with_reducible exact LeO.none _)
      | (with_reducible refine LeO.ite ?_ ?_)
      | (with_reducible refine LeO.bind ?_ (fun _ => ?_))
      | exact ih0 _ _ _ _ _ _ _ _
      | exact ih1 _ _ _ _ _ _
      | exact ih2 _ _ _ _ _ _ _
      | exact ih3 _ _ _ _ _ _ _ _ _ _ _ _ _
      | exact LeO.none _
      | refine LeO.ite ?_ ?_
      | refine LeO.bind ?_ (fun _ => ?_)
def forecourtref05_arrivals.T17 : Bool × List (List Nat × List Nat) := (true, [([], []), ([], []), ([1], [1]), ([], []), ([], []), ([4], [4]), ([3, 5], [3, 5]), ([6], [6]), ([], []), ([8], [8]), ([9], [9]), ([7, 10], [7, 10]), ([0, 2, 0, 1, 2, 3, 4, 5, 6, 7, 8, 9, 10, 11], [0, 2]), ([12, 11, 0, 1, 2, 3, 4, 5, 6, 7, 8, 9, 10, 11], [11, 12])])
def forecourtref05_arrivals.B17 : List Nat := [0, 0, 2, 0, 0, 16, 56, 120, 0, 256, 768, 2040, 4095, 8191]
theorem forecourtref05_arrivals.tab17 : rtab .any (opsOf Try.f64 17) = forecourtref05_arrivals.T17 := by kernel_rfl
theorem forecourtref05_arrivals.bits17 : waitsOk forecourtref05_arrivals.T17.2 forecourtref05_arrivals.B17 = true := by kernel_rfl
def forecourtref05_arrivals.T19 : Bool × List (List Nat × List Nat) := (true, [([], []), ([], []), ([1], [1]), ([], []), ([], []), ([4], [4]), ([3, 5], [3, 5]), ([6], [6]), ([], []), ([], []), ([9], [9]), ([10], [10]), ([8, 11], [8, 11]), ([7, 12], [7, 12]), ([0, 2, 0, 1, 2, 3, 4, 5, 6, 7, 8, 9, 10, 11, 12, 13], [0, 2]), ([14, 13, 0, 1, 2, 3, 4, 5, 6, 7, 8, 9, 10, 11, 12, 13], [13, 14])])
def forecourtref05_arrivals.B19 : List Nat := [0, 0, 2, 0, 0, 16, 56, 120, 0, 0, 512, 1536, 3840, 8184, 16383, 32767]
theorem forecourtref05_arrivals.tab19 : rtab .any (opsOf Try.f64 19) = forecourtref05_arrivals.T19 := by kernel_rfl
theorem forecourtref05_arrivals.bits19 : waitsOk forecourtref05_arrivals.T19.2 forecourtref05_arrivals.B19 = true := by kernel_rfl
set_option maxHeartbeats 8000000 in
set_option maxRecDepth 100000 in
theorem forecourtref05_arrivals.calls (k : Nat) (a0_0 : Int) (A0_1 : Option Addr) (c0_1 : Nat) (l0_1 : List (S58)) (a1_0 : Int) (a1_1 : Int) (a2 : Bool) (a3 : Int) (r : List Int) (w : World) (hr0_1 : Kd.C k58 w A0_1 l0_1.length l0_1) (hc0_1 : l0_1.length ≤ c0_1) (h : forecourtref05_arrivals.f k a0_0 l0_1 a1_0 a1_1 a2 a3 = some r) :
    Calls Try.prog 64 #[.agg #[.int .i64 a0_0, .slice A0_1 l0_1.length c0_1], .agg #[.int .i64 a1_0, .int .i64 a1_1], .bool a2, .int .i64 a3] w fun e w' => ∃ v0_ : Value, e = .returned (v0_) ∧ Kd.R (Kd.int .i64) 2 w' w.heap.size (fun _ => True) v0_ r ∧ Below w.heap.size w w' := by
  have hu24 := Try.underlying24
  have hu26 := Try.underlying26
  have hu58 := Try.underlying58
  have HR0_1 := Aside0.mk hr0_1
  have HC0_1 := Aside0.mk hc0_1
  clear hr0_1 hc0_1
  have HB := Aside0.mk (Below.refl w.heap.size w)
  have H : (if 0 ≤ a0_0 then (if (a0_0 : Int).toNat ≤ 35184372088832 then (forecourtref05_arrivals.l0 k a2 a3 (List.replicate (a0_0 : Int).toNat 0) 0 a0_0 l0_1 a1_0 a1_1) else (none)) else (none)) = some r := h
  clear h
  by_cases c5 : 0 ≤ a0_0
  · rw [if_pos c5] at H
    have c5b0 := eq_true c5
    have c5b1 : decide (0 ≤ a0_0) = true := decide_eq_true c5
    clear c5
    by_cases c6 : (a0_0 : Int).toNat ≤ 35184372088832
    · rw [if_pos c6] at H
      have c6b0 := eq_true c6
      have c6b1 : decide ((a0_0 : Int).toNat ≤ 35184372088832) = true := decide_eq_true c6
      clear c6
      obtain ⟨y311, hy311⟩ : ∃ y_ : List Int, y_ = (List.replicate (a0_0 : Int).toNat 0) := ⟨_, rfl⟩
      replace H : (forecourtref05_arrivals.l0 k a2 a3 y311 0 a0_0 l0_1 a1_0 a1_1) = some r := by first | (rw [hy311]; with_reducible exact H) | (have H2_ := (Option.bind_some _ _).symm.trans H; rw [hy311]; with_reducible exact H2_) | (have H2_ := (Option.bind_some _ _).symm.trans H; with_reducible exact H2_) | with_reducible exact H | (rw [hy311]; exact H) | exact H
      have Ny311 := Aside0.mk hy311
      clear hy311
      have H' := Aside0.mk H
      clear H
      go_enter Try.func64, Try.ntmps64
      go_wp2_with (first | ((with_reducible refine gate_dst (N := 4) rfl ?_); refine box_event ?hg (N := 4) ?hd (cs := #[.int .i64 a0_0, .slice A0_1 l0_1.length c0_1]) (t := 24) ?hr ?_; (case hd => rfl); (case hg => rfl); (case hr => first | (go_simp; done) | (go_simp; rfl)); intro gb309 hg w7 hbox hb; have n0_ := Aside0.mk (below_step (by repeat (first | (with_reducible first | exact HB.out | apply below_alloc | apply pw_below_drewN | apply below_drew1) | exact HB.out)) hb); have n1_ := Aside0.mk (hbox); have n2_ := Aside0.mk ((by rw [hg]; exact (below_size (by repeat (first | (with_reducible first | exact HB.out | apply below_alloc | apply pw_below_drewN | apply below_drew1) | exact HB.out))) : w.heap.size ≤ gb309)); have n3_ := Aside0.mk ((by rw [hg]; exact (below_size (by repeat (first | (with_reducible first | exact HB.out | apply below_alloc | apply pw_below_drewN | apply below_drew1) | exact HB.out))) : w.heap.size ≤ gb309)); clear HB; have HB := n0_; have BK309 := n1_; have GW309 := n2_; have GE309 := n3_; clear n0_ n1_ n2_ n3_; clear hb hbox hg) | ((with_reducible refine gate_dst (N := 5) rfl ?_); refine box_event ?hg (N := 5) ?hd (cs := #[.int .i64 a1_0, .int .i64 a1_1]) (t := 26) ?hr ?_; (case hd => rfl); (case hg => rfl); (case hr => first | (go_simp; done) | (go_simp; rfl)); intro gb310 hg w8 hbox hb; have n0_ := Aside0.mk (blk_below (g := gb309) (o := .cells #[.int .i64 a0_0, .slice A0_1 l0_1.length c0_1] 24 (0, 0)) (by (with_reducible repeat (first | refine blk_drewN ?_ _ | refine blk_drew ?_ | refine blk_alloc ?_ _)); exact BK309.out) hb); have n1_ := Aside0.mk (below_step (by repeat (first | (with_reducible first | exact HB.out | apply below_alloc | apply pw_below_drewN | apply below_drew1 | refine below_set ?_ GE309.out) | exact HB.out)) hb); have n2_ := Aside0.mk (hbox); have n3_ := Aside0.mk ((by rw [hg]; exact (below_size (by repeat (first | (with_reducible first | exact HB.out | apply below_alloc | apply pw_below_drewN | apply below_drew1 | refine below_set ?_ GE309.out) | exact HB.out))) : w.heap.size ≤ gb310)); have n4_ := Aside0.mk ((by rw [hg]; exact (below_size (by repeat (first | (with_reducible first | exact HB.out | apply below_alloc | apply pw_below_drewN | apply below_drew1 | refine below_set ?_ GE309.out) | exact HB.out))) : w.heap.size ≤ gb310)); have n5_ := Aside0.mk ((by rw [hg]; exact Nat.ne_of_lt (blk_lt (g := gb309) (o := .cells #[.int .i64 a0_0, .slice A0_1 l0_1.length c0_1] 24 (0, 0)) (by (with_reducible repeat (first | refine blk_drewN ?_ _ | refine blk_drew ?_ | refine blk_alloc ?_ _)); exact BK309.out)) : gb309 ≠ gb310)); have n6_ := Aside0.mk ((by rw [hg]; exact Nat.ne_of_gt (blk_lt (g := gb309) (o := .cells #[.int .i64 a0_0, .slice A0_1 l0_1.length c0_1] 24 (0, 0)) (by (with_reducible repeat (first | refine blk_drewN ?_ _ | refine blk_drew ?_ | refine blk_alloc ?_ _)); exact BK309.out)) : gb310 ≠ gb309)); clear BK309; clear HB; have BK309 := n0_; have HB := n1_; have BK310 := n2_; have GW310 := n3_; have GE310 := n4_; have NB309_310 := n5_; have NB310_309 := n6_; clear n0_ n1_ n2_ n3_ n4_ n5_ n6_; clear hb hbox hg; have hnb9 := NB309_310.out; have hnc9 := NB310_309.out; have hcz10_0 : w8.cell? ⟨gb309, 0, none⟩ = some (.int .i64 a0_0) := (blk_cell BK309.out 0).trans rfl; have hcz10_1 : w8.cell? ⟨gb309, 1, none⟩ = some (.slice A0_1 l0_1.length c0_1) := (blk_cell BK309.out 1).trans rfl; have hfz10_0 := blk_frozen BK309.out 0; have hfz10_1 := blk_frozen BK309.out 1) | ((with_reducible refine gate_dst (N := 17) rfl ?_); refine Kd.R_make (Kd.int .i64) _ 2 rfl (N := 17) rfl 28 _ _ rfl a0_0 rfl rfl Try.underlying28 (.int .i64 0) 8 info2 rfl (by decide) (by omega) 0 (ok := fun _ => True) (okp := fun _ => True) rfl (fun _ hk => hk) trivial (of_decide_eq_true (by first | (with_reducible assumption) | assumption)) (Nat.le_trans (Nat.mul_le_mul_right _ (of_decide_eq_true (by first | (with_reducible assumption) | assumption) : a0_0.toNat ≤ 35184372088832)) (by omega)) (Below.refl _ _) (Nat.le_refl _) ?_; intro v312 w11 ho12 hb hg_ hnew_; clear hg_ hnew_; (first | rw [← Ny311.out] at ho12 | (simp only [Int.reduceToNat] at ho12; rw [← Ny311.out] at ho12)); have n0_ := Aside0.mk (Kd.R_lower ho12 (below_size (by repeat (first | (with_reducible first | exact HB.out | apply below_alloc | apply pw_below_drewN | apply below_drew1 | refine below_set ?_ GE309.out | refine below_set ?_ GE310.out) | exact HB.out)))); have n1_ := Aside0.mk (blk_below (g := gb309) (o := .cells #[.int .i64 a0_0, .slice A0_1 l0_1.length c0_1] 24 (0, 0)) (by (with_reducible repeat (first | refine blk_drewN ?_ _ | refine blk_drew ?_ | refine blk_alloc ?_ _)); exact BK309.out) hb); have n2_ := Aside0.mk (blk_below (g := gb310) (o := .cells #[.int .i64 a1_0, .int .i64 a1_1] 26 (0, 0)) (by (with_reducible repeat (first | refine blk_drewN ?_ _ | refine blk_drew ?_ | refine blk_alloc ?_ _)); exact BK310.out) hb); have n3_ := Aside0.mk (below_step (by repeat (first | (with_reducible first | exact HB.out | apply below_alloc | apply pw_below_drewN | apply below_drew1 | refine below_set ?_ GE309.out | refine below_set ?_ GE310.out) | exact HB.out)) hb); clear BK309; clear BK310; clear HB; have HO313 := n0_; have BK309 := n1_; have BK310 := n2_; have HB := n3_; clear n0_ n1_ n2_ n3_; clear hb ho12))
      go_loopg [10] k (fun kq v10 w' => ∃ (x9_1 : List Int) (x10_1 : Int), v10 = .int .i64 x10_1 ∧ Aside0 (forecourtref05_arrivals.l0 kq a2 a3 x9_1 x10_1 a0_0 l0_1 a1_0 a1_1 = some r) ∧ Aside0 (kq ≤ k) ∧ Aside0 (Kd.R (Kd.int .i64) 2 w' w.heap.size (fun _ => True) v312 x9_1) ∧ Aside0 (w'.heap[gb309]? = some (.cells #[.int .i64 a0_0, (.slice A0_1 l0_1.length c0_1)] 24 (0, 0))) ∧ Aside0 (w'.heap[gb310]? = some (.cells #[.int .i64 a1_0, .int .i64 a1_1] 26 (0, 0))) ∧ Aside0 (Below w.heap.size w w'))
      case atStart => exact ⟨(y311), (0), (by first | rfl | (simp; done) | (simp [*]; done)), H', ⟨Nat.le_refl _⟩, ⟨by (with_reducible repeat (first | apply Kd.R_alloc | apply Kd.R_drewN | apply Kd.R_drew)); exact HO313.out⟩, ⟨by (with_reducible repeat (first | refine blk_drewN ?_ _ | refine blk_drew ?_ | refine blk_alloc ?_ _)); exact BK309.out⟩, ⟨by (with_reducible repeat (first | refine blk_drewN ?_ _ | refine blk_drew ?_ | refine blk_alloc ?_ _)); exact BK310.out⟩, ⟨by repeat (first | (with_reducible first | exact HB.out | apply below_alloc | apply pw_below_drewN | apply below_drew1 | refine below_set ?_ GE309.out | refine below_set ?_ GE310.out) | exact HB.out)⟩⟩
      case round =>
        clear H'
        try clear p2
        try clear c5
        try clear c5b0
        try clear c5b1
        try clear c6
        try clear c6b0
        try clear c6b1
        try clear c9
        try clear hcz10_0
        try clear hcz10_1
        try clear hfz10_0
        try clear hfz10_1
        obtain ⟨x9_1, x10_1, rfl, HA, HK1, HO_9, BK309, BK310, HB⟩ := hrel
        cases gk with
        | zero => exact absurd HA.out (by simp [forecourtref05_arrivals.l0])
        | succ k1 =>
          have H := HA.out
          clear HA
          simp only [forecourtref05_arrivals.l0] at H
          by_cases c13 : x10_1 < (x9_1.length : Int)
          · rw [if_pos c13] at H
            have c13b0 : decide (x10_1 < (x9_1.length : Int)) = true := decide_eq_true c13
            clear c13
            by_cases c14 : 0 ≤ x10_1
            · rw [if_pos c14] at H
              have c14b0 : decide (0 ≤ x10_1) = true := decide_eq_true c14
              clear c14
              obtain ⟨y314, hy314⟩ : ∃ y_ : List Int, y_ = (x9_1.set (x10_1 : Int).toNat 1048576) := ⟨_, rfl⟩
              replace H : (forecourtref05_arrivals.l0 k1 a2 a3 y314 (wrap64 (x10_1 + 1)) a0_0 l0_1 a1_0 a1_1) = some r := by first | (rw [hy314]; with_reducible exact H) | (have H2_ := (Option.bind_some _ _).symm.trans H; rw [hy314]; with_reducible exact H2_) | (have H2_ := (Option.bind_some _ _).symm.trans H; with_reducible exact H2_) | with_reducible exact H | (rw [hy314]; exact H) | exact H
              have Ny314 := Aside0.mk hy314
              clear hy314
              have H' := Aside0.mk H
              clear H
              obtain ⟨Ao16, co16, eo16⟩ := Kd.R_slice HO_9.out
              subst eo16
              have p15 : 0 ≤ (x10_1 : Int) := of_decide_eq_true (by first | (with_reducible assumption) | assumption)
              have q15 : (x10_1 : Int) < ((x9_1.length : Int) : Int) := of_decide_eq_true (by first | (with_reducible assumption) | assumption)
              obtain ⟨go15, co15, eo15, gb15, gl15, cl15, HG15⟩ := Kd.R_form HO_9.out (by omega)
              (first | cases eo15 | (injection eo15 with ea_ en_ ec_; (first | subst ea_ | (injection ea_ with ea_; subst ea_)); subst ec_; clear en_))
              have GB15 := Aside0.mk gb15
              have GG15 := Aside0.mk HG15
              clear gb15 gl15 HG15
              obtain ⟨hx15_0, hf15_0⟩ := Kd.R_celln 0 HO_9.out (x10_1 : Int) p15 q15
              replace p15 := eq_true p15
              replace q15 := eq_true q15
              have HP17 := Kd.R_putg HO_9.out (x10_1 : Int) 1048576
              go_wp2_with (first | ((with_reducible refine gate_store (t := 2) (p := 26) rfl ?_); refine store_event (t := 2) (p := 26) (v := ?vo_w18) (w1 := (wr.setCell ⟨go15, (x10_1 : Int).toNat, none⟩ (.int .i64 1048576))) ?hg ?ho ?hn ?hr ?_; (case ho => rfl); (case hg => rfl); (case hn => rfl); (case hr => first | (go_simp; done) | (go_simp; rfl)); intro w18 hw; have hg : wr.grownBy w18 (some go15) := (by rw [hw]; exact HP17.2); have hp_ : Kd.R (Kd.int .i64) 2 w18 w.heap.size (fun _ => True) (.slice (some ⟨go15, 0, none⟩) x9_1.length co16) y314 := (by rw [hw, Ny314.out]; exact HP17.1); clear HP17; have n0_ := Aside0.mk (hp_); have n1_ := Aside0.mk (blk_grown (g := gb309) (o := .cells #[.int .i64 a0_0, .slice A0_1 l0_1.length c0_1] 24 (0, 0)) (by (with_reducible repeat (first | refine blk_drewN ?_ _ | refine blk_drew ?_ | refine blk_alloc ?_ _)); exact BK309.out) hg (Kd.R_ne HO_9.out BK309.out (by decide))); have n2_ := Aside0.mk (blk_grown (g := gb310) (o := .cells #[.int .i64 a1_0, .int .i64 a1_1] 26 (0, 0)) (by (with_reducible repeat (first | refine blk_drewN ?_ _ | refine blk_drew ?_ | refine blk_alloc ?_ _)); exact BK310.out) hg (Kd.R_ne HO_9.out BK310.out (by decide))); have n3_ := Aside0.mk ((by rw [hw]; exact below_set (HB.out) GB15.out : Below w.heap.size w w18)); clear HO_9; clear BK309; clear BK310; clear HB; have HO_9 := n0_; have BK309 := n1_; have BK310 := n2_; have HB := n3_; clear n0_ n1_ n2_ n3_; clear hg hw hp_))
              go_roundg k1
              case measure => have := HK1.out; omega
              case rel => exact ⟨(y314), (wrap64 (x10_1 + 1)), (by first | rfl | (simp; done) | (simp [*]; done)), H', ⟨by have := HK1.out; omega⟩, ⟨by (with_reducible repeat (first | apply Kd.R_alloc | apply Kd.R_drewN | apply Kd.R_drew)); exact HO_9.out⟩, ⟨by (with_reducible repeat (first | refine blk_drewN ?_ _ | refine blk_drew ?_ | refine blk_alloc ?_ _)); exact BK309.out⟩, ⟨by (with_reducible repeat (first | refine blk_drewN ?_ _ | refine blk_drew ?_ | refine blk_alloc ?_ _)); exact BK310.out⟩, ⟨by repeat (first | (with_reducible first | exact HB.out | apply below_alloc | apply pw_below_drewN | apply below_drew1 | refine below_set ?_ GE309.out | refine below_set ?_ GE310.out) | exact HB.out)⟩⟩
            · rw [if_neg c14] at H
              exact absurd H (by simp)
          · rw [if_neg c13] at H
            have c13b0 : decide (x10_1 < (x9_1.length : Int)) = false := decide_eq_false c13
            clear c13
            by_cases c19 : 0 ≤ a1_0
            · rw [if_pos c19] at H
              have c19b0 : decide (0 ≤ a1_0) = true := decide_eq_true c19
              clear c19
              by_cases c20 : a1_0 < (x9_1.length : Int)
              · rw [if_pos c20] at H
                have c20b0 : decide (a1_0 < (x9_1.length : Int)) = true := decide_eq_true c20
                clear c20
                obtain ⟨y315, hy315⟩ : ∃ y_ : List Int, y_ = (x9_1.set (a1_0 : Int).toNat a1_1) := ⟨_, rfl⟩
                replace H : (forecourtref05_arrivals.l1 k1 a2 a3 y315 0 a0_0 l0_1) = some r := by first | (rw [hy315]; with_reducible exact H) | (have H2_ := (Option.bind_some _ _).symm.trans H; rw [hy315]; with_reducible exact H2_) | (have H2_ := (Option.bind_some _ _).symm.trans H; with_reducible exact H2_) | with_reducible exact H | (rw [hy315]; exact H) | exact H
                have Ny315 := Aside0.mk hy315
                clear hy315
                have H' := Aside0.mk H
                clear H
                obtain ⟨Ao22, co22, eo22⟩ := Kd.R_slice HO_9.out
                subst eo22
                have hnb23 := NB310_309.out
                have hnc23 := NB309_310.out
                have hcz24_0 : wr.cell? ⟨gb310, 0, none⟩ = some (.int .i64 a1_0) := (blk_cell BK310.out 0).trans rfl
                have hcz24_1 : wr.cell? ⟨gb310, 1, none⟩ = some (.int .i64 a1_1) := (blk_cell BK310.out 1).trans rfl
                have hfz24_0 := blk_frozen BK310.out 0
                have hfz24_1 := blk_frozen BK310.out 1
                have p21 : 0 ≤ (a1_0 : Int) := of_decide_eq_true (by first | (with_reducible assumption) | assumption)
                have q21 : (a1_0 : Int) < ((x9_1.length : Int) : Int) := of_decide_eq_true (by first | (with_reducible assumption) | assumption)
                obtain ⟨go21, co21, eo21, gb21, gl21, cl21, HG21⟩ := Kd.R_form HO_9.out (by omega)
                (first | cases eo21 | (injection eo21 with ea_ en_ ec_; (first | subst ea_ | (injection ea_ with ea_; subst ea_)); subst ec_; clear en_))
                have GB21 := Aside0.mk gb21
                have GG21 := Aside0.mk HG21
                clear gb21 gl21 HG21
                obtain ⟨hx21_0, hf21_0⟩ := Kd.R_celln 0 HO_9.out (a1_0 : Int) p21 q21
                replace p21 := eq_true p21
                replace q21 := eq_true q21
                have HP25 := Kd.R_putg HO_9.out (a1_0 : Int) a1_1
                go_wp2_with (first | ((with_reducible refine gate_store (t := 2) (p := 32) rfl ?_); refine store_event (t := 2) (p := 32) (v := ?vo_w26) (w1 := (wr.setCell ⟨go21, (a1_0 : Int).toNat, none⟩ (.int .i64 a1_1))) ?hg ?ho ?hn ?hr ?_; (case ho => rfl); (case hg => rfl); (case hn => rfl); (case hr => first | (go_simp; done) | (go_simp; rfl)); intro w26 hw; have hg : wr.grownBy w26 (some go21) := (by rw [hw]; exact HP25.2); have hp_ : Kd.R (Kd.int .i64) 2 w26 w.heap.size (fun _ => True) (.slice (some ⟨go21, 0, none⟩) x9_1.length co22) y315 := (by rw [hw, Ny315.out]; exact HP25.1); clear HP25; have n0_ := Aside0.mk (hp_); have n1_ := Aside0.mk (blk_grown (g := gb309) (o := .cells #[.int .i64 a0_0, .slice A0_1 l0_1.length c0_1] 24 (0, 0)) (by (with_reducible repeat (first | refine blk_drewN ?_ _ | refine blk_drew ?_ | refine blk_alloc ?_ _)); exact BK309.out) hg (Kd.R_ne HO_9.out BK309.out (by decide))); have n2_ := Aside0.mk (blk_grown (g := gb310) (o := .cells #[.int .i64 a1_0, .int .i64 a1_1] 26 (0, 0)) (by (with_reducible repeat (first | refine blk_drewN ?_ _ | refine blk_drew ?_ | refine blk_alloc ?_ _)); exact BK310.out) hg (Kd.R_ne HO_9.out BK310.out (by decide))); have n3_ := Aside0.mk ((by rw [hw]; exact below_set (HB.out) GB21.out : Below w.heap.size w w26)); clear HO_9; clear BK309; clear BK310; clear HB; have HO_9 := n0_; have BK309 := n1_; have BK310 := n2_; have HB := n3_; clear n0_ n1_ n2_ n3_; clear hg hw hp_))
                go_loopg [11] k1 (fun kq v11 w' => ∃ (x9_2 : List Int) (x11_2 : Int), v11 = .int .i64 x11_2 ∧ Aside0 (forecourtref05_arrivals.l1 kq a2 a3 x9_2 x11_2 a0_0 l0_1 = some r) ∧ Aside0 (kq ≤ k1) ∧ Aside0 (Kd.R (Kd.int .i64) 2 w' w.heap.size (fun _ => True) (.slice (some ⟨go21, 0, none⟩) x9_1.length co22) x9_2) ∧ Aside0 (w'.heap[gb309]? = some (.cells #[.int .i64 a0_0, (.slice A0_1 l0_1.length c0_1)] 24 (0, 0))) ∧ Aside0 (w'.heap[gb310]? = some (.cells #[.int .i64 a1_0, .int .i64 a1_1] 26 (0, 0))) ∧ Aside0 (Below w.heap.size w w'))
                case atStart => exact ⟨(y315), (0), (by first | rfl | (simp; done) | (simp [*]; done)), H', ⟨Nat.le_refl _⟩, ⟨by (with_reducible repeat (first | apply Kd.R_alloc | apply Kd.R_drewN | apply Kd.R_drew)); exact HO_9.out⟩, ⟨by (with_reducible repeat (first | refine blk_drewN ?_ _ | refine blk_drew ?_ | refine blk_alloc ?_ _)); exact BK309.out⟩, ⟨by (with_reducible repeat (first | refine blk_drewN ?_ _ | refine blk_drew ?_ | refine blk_alloc ?_ _)); exact BK310.out⟩, ⟨by repeat (first | (with_reducible first | exact HB.out | apply below_alloc | apply pw_below_drewN | apply below_drew1 | refine below_set ?_ GE309.out | refine below_set ?_ GE310.out) | exact HB.out)⟩⟩
                case round =>
                  clear H'
                  try clear c1
                  try clear p1
                  try clear q1
                  try clear hx1
                  try clear c2
                  try clear p2
                  try clear q2
                  try clear hx2
                  try clear c5
                  try clear c5b0
                  try clear c5b1
                  try clear c6
                  try clear c6b0
                  try clear c6b1
                  try clear p6
                  try clear c9
                  try clear c13
                  try clear c13b0
                  try clear c14
                  try clear c14b0
                  try clear p15
                  try clear q15
                  try clear hx15
                  try clear hf15
                  try clear c19
                  try clear c19b0
                  try clear c20
                  try clear c20b0
                  try clear p21
                  try clear q21
                  try clear hx21
                  try clear hf21
                  try clear c23
                  try clear hcz10_0
                  try clear hcz10_1
                  try clear hcz24_0
                  try clear hcz24_1
                  try clear hfz10_0
                  try clear hfz10_1
                  try clear hfz24_0
                  try clear hfz24_1
                  try clear hx15_0
                  try clear hx21_0
                  try clear p15
                  try clear p2
                  try clear p21
                  try clear q15
                  try clear q21
                  obtain ⟨x9_2, x11_2, rfl, HA, HK2, HO_9, BK309, BK310, HB⟩ := hrel
                  have hl9_2 := (Kd.R_reads' HO_9.out).1
                  rw [hl9_2] at HO_9
                  (try simp only [hl9_2])
                  (try simp only [hl9_2] at BK309)
                  (try simp only [hl9_2] at BK310)
                  cases gk with
                  | zero => exact absurd HA.out (by simp [forecourtref05_arrivals.l1])
                  | succ k2 =>
                    have H := HA.out
                    clear HA
                    simp only [forecourtref05_arrivals.l1] at H
                    by_cases c27 : x11_2 < a0_0
                    · rw [if_pos c27] at H
                      have c27b0 : decide (x11_2 < a0_0) = true := decide_eq_true c27
                      clear c27
                      have H' := Aside0.mk H
                      clear H
                      have hnb28 := NB309_310.out
                      have hnc28 := NB310_309.out
                      have hcz29_0 : wr.cell? ⟨gb309, 0, none⟩ = some (.int .i64 a0_0) := (blk_cell BK309.out 0).trans rfl
                      have hcz29_1 : wr.cell? ⟨gb309, 1, none⟩ = some (.slice A0_1 l0_1.length c0_1) := (blk_cell BK309.out 1).trans rfl
                      have hfz29_0 := blk_frozen BK309.out 0
                      have hfz29_1 := blk_frozen BK309.out 1
                      go_wp2
                      go_loopg [12] k2 (fun kq v12 w' => ∃ (x9_3 : List Int) (x12_3 : Int), v12 = .int .i64 x12_3 ∧ Aside0 (forecourtref05_arrivals.l2 kq a2 a3 x9_3 x11_2 x12_3 a0_0 l0_1 = some r) ∧ Aside0 (kq ≤ k2) ∧ Aside0 (Kd.R (Kd.int .i64) 2 w' w.heap.size (fun _ => True) (.slice (some ⟨go21, 0, none⟩) x9_2.length co22) x9_3) ∧ Aside0 (w'.heap[gb309]? = some (.cells #[.int .i64 a0_0, (.slice A0_1 l0_1.length c0_1)] 24 (0, 0))) ∧ Aside0 (w'.heap[gb310]? = some (.cells #[.int .i64 a1_0, .int .i64 a1_1] 26 (0, 0))) ∧ Aside0 (Below w.heap.size w w'))
                      case atStart => exact ⟨(x9_2), (0), (by first | rfl | (simp; done) | (simp [*]; done)), H', ⟨Nat.le_refl _⟩, ⟨by (try simp only [hl9_2]); (with_reducible repeat (first | apply Kd.R_alloc | apply Kd.R_drewN | apply Kd.R_drew)); exact HO_9.out⟩, ⟨by (try simp only [hl9_2]); (with_reducible repeat (first | refine blk_drewN ?_ _ | refine blk_drew ?_ | refine blk_alloc ?_ _)); exact BK309.out⟩, ⟨by (try simp only [hl9_2]); (with_reducible repeat (first | refine blk_drewN ?_ _ | refine blk_drew ?_ | refine blk_alloc ?_ _)); exact BK310.out⟩, ⟨by repeat (first | (with_reducible first | exact HB.out | apply below_alloc | apply pw_below_drewN | apply below_drew1 | refine below_set ?_ GE309.out | refine below_set ?_ GE310.out) | exact HB.out)⟩⟩
                      case round =>
                        clear H'
                        try clear c1
                        try clear p1
                        try clear q1
                        try clear hx1
                        try clear c2
                        try clear p2
                        try clear q2
                        try clear hx2
                        try clear c5
                        try clear c5b0
                        try clear c5b1
                        try clear c6
                        try clear c6b0
                        try clear c6b1
                        try clear p6
                        try clear c9
                        try clear c13
                        try clear c13b0
                        try clear c14
                        try clear c14b0
                        try clear p15
                        try clear q15
                        try clear hx15
                        try clear hf15
                        try clear c19
                        try clear c19b0
                        try clear c20
                        try clear c20b0
                        try clear p21
                        try clear q21
                        try clear hx21
                        try clear hf21
                        try clear c23
                        try clear c27
                        try clear c27b0
                        try clear c28
                        try clear hcz10_0
                        try clear hcz10_1
                        try clear hcz24_0
                        try clear hcz24_1
                        try clear hcz29_0
                        try clear hcz29_1
                        try clear hfz10_0
                        try clear hfz10_1
                        try clear hfz24_0
                        try clear hfz24_1
                        try clear hfz29_0
                        try clear hfz29_1
                        try clear hx15_0
                        try clear hx21_0
                        try clear p1
                        try clear p15
                        try clear p2
                        try clear p21
                        try clear p6
                        try clear q1
                        try clear q15
                        try clear q2
                        try clear q21
                        obtain ⟨x9_3, x12_3, rfl, HA, HK3, HO_9, BK309, BK310, HB⟩ := hrel
                        have hl9_3 := (Kd.R_reads' HO_9.out).1
                        rw [hl9_3] at HO_9
                        (try simp only [hl9_3])
                        (try simp only [hl9_3] at BK309)
                        (try simp only [hl9_3] at BK310)
                        cases gk with
                        | zero => exact absurd HA.out (by simp [forecourtref05_arrivals.l2])
                        | succ k3 =>
                          have H := HA.out
                          clear HA
                          simp only [forecourtref05_arrivals.l2] at H
                          by_cases c30 : x12_3 < (l0_1.length : Int)
                          · rw [if_pos c30] at H
                            have c30b0 : decide (x12_3 < (l0_1.length : Int)) = true := decide_eq_true c30
                            clear c30
                            by_cases c31 : 0 ≤ x12_3
                            · rw [if_pos c31] at H
                              have c31b0 : decide (0 ≤ x12_3) = true := decide_eq_true c31
                              clear c31
                              by_cases c32 : ((rd_T58 l0_1 x12_3).f1) = a3
                              · rw [if_pos c32] at H
                                have c32b0 : (((rd_T58 l0_1 x12_3).f1) == a3) = true := beq_iff_eq.mpr c32
                                have c32b1 : (((rd_T58 l0_1 x12_3).f1) != a3) = false := bne_eq_false_iff_eq.mpr c32
                                clear c32
                                have H' := Aside0.mk H
                                clear H
                                have hnb33 := NB309_310.out
                                have hnc33 := NB310_309.out
                                have hcz34_0 : wr.cell? ⟨gb309, 0, none⟩ = some (.int .i64 a0_0) := (blk_cell BK309.out 0).trans rfl
                                have hcz34_1 : wr.cell? ⟨gb309, 1, none⟩ = some (.slice A0_1 l0_1.length c0_1) := (blk_cell BK309.out 1).trans rfl
                                have hfz34_0 := blk_frozen BK309.out 0
                                have hfz34_1 := blk_frozen BK309.out 1
                                have p316 : 0 ≤ (x12_3 : Int) := of_decide_eq_true (by first | (with_reducible assumption) | assumption)
                                have q316 : x12_3 < (l0_1.length : Int) := of_decide_eq_true (by first | (with_reducible assumption) | assumption)
                                obtain ⟨ad316, e316, hx316_0, hx316_1, hx316_2, hx316_3⟩ := at_T58 HR0_1.out x12_3 p316 q316
                                cases e316
                                replace hx316_0 := (HB.out.cell (World.block_lt_of_cell? w _ hx316_0)).trans hx316_0
                                replace hx316_1 := (HB.out.cell (World.block_lt_of_cell? w _ hx316_1)).trans hx316_1
                                replace hx316_2 := (HB.out.cell (World.block_lt_of_cell? w _ hx316_2)).trans hx316_2
                                replace hx316_3 := (HB.out.cell (World.block_lt_of_cell? w _ hx316_3)).trans hx316_3
                                replace p316 := eq_true p316
                                replace q316 := eq_true q316
                                go_wp2_with (first | ((with_reducible refine gate_dst (N := 13) rfl ?_); refine box_event ?hg (N := 13) ?hd (cs := #[.int .i64 0, .int .i64 0, .int .i64 0, .int .i64 0]) (t := 58) ?hr ?_; (case hd => rfl); (case hg => rfl); (case hr => first | (go_simp; done) | (go_simp; rfl)); intro gb317 hg w35 hbox hb; have n0_ := Aside0.mk (Kd.R_below (by (with_reducible repeat (first | apply Kd.R_alloc | apply Kd.R_drewN | apply Kd.R_drew)); exact HO_9.out) hb); have n1_ := Aside0.mk (blk_below (g := gb309) (o := .cells #[.int .i64 a0_0, .slice (some ad316) l0_1.length c0_1] 24 (0, 0)) (by (with_reducible repeat (first | refine blk_drewN ?_ _ | refine blk_drew ?_ | refine blk_alloc ?_ _)); exact BK309.out) hb); have n2_ := Aside0.mk (blk_below (g := gb310) (o := .cells #[.int .i64 a1_0, .int .i64 a1_1] 26 (0, 0)) (by (with_reducible repeat (first | refine blk_drewN ?_ _ | refine blk_drew ?_ | refine blk_alloc ?_ _)); exact BK310.out) hb); have n3_ := Aside0.mk (below_step (by repeat (first | (with_reducible first | exact HB.out | apply below_alloc | apply pw_below_drewN | apply below_drew1 | refine below_set ?_ GE309.out | refine below_set ?_ GE310.out) | exact HB.out)) hb); have n4_ := Aside0.mk (hbox); have n5_ := Aside0.mk ((by rw [hg]; exact (below_size (by repeat (first | (with_reducible first | exact HB.out | apply below_alloc | apply pw_below_drewN | apply below_drew1 | refine below_set ?_ GE309.out | refine below_set ?_ GE310.out) | exact HB.out))) : w.heap.size ≤ gb317)); have n6_ := Aside0.mk ((by rw [hg]; exact (below_size (by repeat (first | (with_reducible first | exact HB.out | apply below_alloc | apply pw_below_drewN | apply below_drew1 | refine below_set ?_ GE309.out | refine below_set ?_ GE310.out) | exact HB.out))) : w.heap.size ≤ gb317)); have n7_ := Aside0.mk ((by rw [hg]; exact Nat.ne_of_lt (blk_lt (g := gb309) (o := .cells #[.int .i64 a0_0, .slice (some ad316) l0_1.length c0_1] 24 (0, 0)) (by (with_reducible repeat (first | refine blk_drewN ?_ _ | refine blk_drew ?_ | refine blk_alloc ?_ _)); exact BK309.out)) : gb309 ≠ gb317)); have n8_ := Aside0.mk ((by rw [hg]; exact Nat.ne_of_gt (blk_lt (g := gb309) (o := .cells #[.int .i64 a0_0, .slice (some ad316) l0_1.length c0_1] 24 (0, 0)) (by (with_reducible repeat (first | refine blk_drewN ?_ _ | refine blk_drew ?_ | refine blk_alloc ?_ _)); exact BK309.out)) : gb317 ≠ gb309)); have n9_ := Aside0.mk ((by rw [hg]; exact Nat.ne_of_lt (blk_lt (g := gb310) (o := .cells #[.int .i64 a1_0, .int .i64 a1_1] 26 (0, 0)) (by (with_reducible repeat (first | refine blk_drewN ?_ _ | refine blk_drew ?_ | refine blk_alloc ?_ _)); exact BK310.out)) : gb310 ≠ gb317)); have n10_ := Aside0.mk ((by rw [hg]; exact Nat.ne_of_gt (blk_lt (g := gb310) (o := .cells #[.int .i64 a1_0, .int .i64 a1_1] 26 (0, 0)) (by (with_reducible repeat (first | refine blk_drewN ?_ _ | refine blk_drew ?_ | refine blk_alloc ?_ _)); exact BK310.out)) : gb317 ≠ gb310)); clear HO_9; clear BK309; clear BK310; clear HB; have HO_9 := n0_; have BK309 := n1_; have BK310 := n2_; have HB := n3_; have BK317 := n4_; have GW317 := n5_; have GE317 := n6_; have NB309_317 := n7_; have NB317_309 := n8_; have NB310_317 := n9_; have NB317_310 := n10_; clear n0_ n1_ n2_ n3_ n4_ n5_ n6_ n7_ n8_ n9_ n10_; clear hb hbox hg; have hnb36 := NB317_309.out; have hnc36 := NB309_317.out; have hnb37 := NB317_310.out; have hnc37 := NB310_317.out; have hcz38_0 : w35.cell? ⟨gb317, 0, none⟩ = some (.int .i64 0) := (blk_cell BK317.out 0).trans rfl; have hcz38_1 : w35.cell? ⟨gb317, 1, none⟩ = some (.int .i64 0) := (blk_cell BK317.out 1).trans rfl; have hcz38_2 : w35.cell? ⟨gb317, 2, none⟩ = some (.int .i64 0) := (blk_cell BK317.out 2).trans rfl; have hcz38_3 : w35.cell? ⟨gb317, 3, none⟩ = some (.int .i64 0) := (blk_cell BK317.out 3).trans rfl; have hfz38_0 := blk_frozen BK317.out 0; have hfz38_1 := blk_frozen BK317.out 1; have hfz38_2 := blk_frozen BK317.out 2; have hfz38_3 := blk_frozen BK317.out 3))
                                (try simp only [← hl9_3])
                                go_roundg k3
                                case measure => have := HK1.out; have := HK2.out; have := HK3.out; omega
                                case rel => exact ⟨(x9_3), (wrap64 (x12_3 + 1)), (by first | rfl | (simp; done) | (simp [*]; done)), H', ⟨by have := HK1.out; have := HK2.out; have := HK3.out; omega⟩, ⟨by (try simp only [hl9_2]); (try simp only [hl9_3]); (with_reducible repeat (first | apply Kd.R_alloc | apply Kd.R_drewN | apply Kd.R_drew)); exact Kd.R_mono (Kd.R_far (p := ⟨gb317, 3, none⟩) (Kd.R_far (p := ⟨gb317, 2, none⟩) (Kd.R_far (p := ⟨gb317, 1, none⟩) (Kd.R_far (p := ⟨gb317, 0, none⟩) (Kd.R_types HO_9.out BK317.out (by decide)) (fun _ hk => hk.2) (.int .i64 ((rd_T58 l0_1 x12_3).f0))) (fun _ hk => hk.2) (.int .i64 ((rd_T58 l0_1 x12_3).f1))) (fun _ hk => hk.2) (.int .i64 ((rd_T58 l0_1 x12_3).f2.f0))) (fun _ hk => hk.2) (.int .i64 ((rd_T58 l0_1 x12_3).f2.f1))) (fun _ hk => trivial)⟩, ⟨by (try simp only [hl9_2]); (try simp only [hl9_3]); (with_reducible repeat (first | refine blk_drewN ?_ _ | refine blk_drew ?_ | refine blk_alloc ?_ _)); refine blk_far ?_ NB309_317.out _; (with_reducible repeat (first | refine blk_drewN ?_ _ | refine blk_drew ?_ | refine blk_alloc ?_ _)); refine blk_far ?_ NB309_317.out _; (with_reducible repeat (first | refine blk_drewN ?_ _ | refine blk_drew ?_ | refine blk_alloc ?_ _)); refine blk_far ?_ NB309_317.out _; (with_reducible repeat (first | refine blk_drewN ?_ _ | refine blk_drew ?_ | refine blk_alloc ?_ _)); refine blk_far ?_ NB309_317.out _; (with_reducible repeat (first | refine blk_drewN ?_ _ | refine blk_drew ?_ | refine blk_alloc ?_ _)); exact BK309.out⟩, ⟨by (try simp only [hl9_2]); (try simp only [hl9_3]); (with_reducible repeat (first | refine blk_drewN ?_ _ | refine blk_drew ?_ | refine blk_alloc ?_ _)); refine blk_far ?_ NB310_317.out _; (with_reducible repeat (first | refine blk_drewN ?_ _ | refine blk_drew ?_ | refine blk_alloc ?_ _)); refine blk_far ?_ NB310_317.out _; (with_reducible repeat (first | refine blk_drewN ?_ _ | refine blk_drew ?_ | refine blk_alloc ?_ _)); refine blk_far ?_ NB310_317.out _; (with_reducible repeat (first | refine blk_drewN ?_ _ | refine blk_drew ?_ | refine blk_alloc ?_ _)); refine blk_far ?_ NB310_317.out _; (with_reducible repeat (first | refine blk_drewN ?_ _ | refine blk_drew ?_ | refine blk_alloc ?_ _)); exact BK310.out⟩, ⟨by repeat (first | (with_reducible first | exact HB.out | apply below_alloc | apply pw_below_drewN | apply below_drew1 | refine below_set ?_ GE309.out | refine below_set ?_ GE310.out | refine below_set ?_ GE317.out) | exact HB.out)⟩⟩
                              · rw [if_neg c32] at H
                                have c32b0 : (((rd_T58 l0_1 x12_3).f1) == a3) = false := beq_eq_false_iff_ne.mpr c32
                                have c32b1 : (((rd_T58 l0_1 x12_3).f1) != a3) = true := bne_iff_ne.mpr c32
                                by_cases c39 : 0 ≤ ((rd_T58 l0_1 x12_3).f0)
                                · rw [if_pos c39] at H
                                  have c39b0 : decide (0 ≤ ((rd_T58 l0_1 x12_3).f0)) = true := decide_eq_true c39
                                  clear c39
                                  by_cases c40 : ((rd_T58 l0_1 x12_3).f0) < (x9_3.length : Int)
                                  · rw [if_pos c40] at H
                                    have c40b0 : decide (((rd_T58 l0_1 x12_3).f0) < (x9_3.length : Int)) = true := decide_eq_true c40
                                    clear c40
                                    have HC41 := Aside0.mk H
                                    clear H
                                    have hnb42 := NB309_310.out
                                    have hnc42 := NB310_309.out
                                    have hcz43_0 : wr.cell? ⟨gb309, 0, none⟩ = some (.int .i64 a0_0) := (blk_cell BK309.out 0).trans rfl
                                    have hcz43_1 : wr.cell? ⟨gb309, 1, none⟩ = some (.slice A0_1 l0_1.length c0_1) := (blk_cell BK309.out 1).trans rfl
                                    have hfz43_0 := blk_frozen BK309.out 0
                                    have hfz43_1 := blk_frozen BK309.out 1
                                    have p316 : 0 ≤ (x12_3 : Int) := of_decide_eq_true (by first | (with_reducible assumption) | assumption)
                                    have q316 : x12_3 < (l0_1.length : Int) := of_decide_eq_true (by first | (with_reducible assumption) | assumption)
                                    obtain ⟨ad316, e316, hx316_0, hx316_1, hx316_2, hx316_3⟩ := at_T58 HR0_1.out x12_3 p316 q316
                                    cases e316
                                    replace hx316_0 := (HB.out.cell (World.block_lt_of_cell? w _ hx316_0)).trans hx316_0
                                    replace hx316_1 := (HB.out.cell (World.block_lt_of_cell? w _ hx316_1)).trans hx316_1
                                    replace hx316_2 := (HB.out.cell (World.block_lt_of_cell? w _ hx316_2)).trans hx316_2
                                    replace hx316_3 := (HB.out.cell (World.block_lt_of_cell? w _ hx316_3)).trans hx316_3
                                    replace p316 := eq_true p316
                                    replace q316 := eq_true q316
                                    go_upto_region 16 with (first | ((with_reducible refine gate_dst (N := 13) rfl ?_); refine box_event ?hg (N := 13) ?hd (cs := #[.int .i64 0, .int .i64 0, .int .i64 0, .int .i64 0]) (t := 58) ?hr ?_; (case hd => rfl); (case hg => rfl); (case hr => first | (go_simp; done) | (go_simp; rfl)); intro gb317 hg w44 hbox hb; have n0_ := Aside0.mk (Kd.R_below (by (with_reducible repeat (first | apply Kd.R_alloc | apply Kd.R_drewN | apply Kd.R_drew)); exact HO_9.out) hb); have n1_ := Aside0.mk (blk_below (g := gb309) (o := .cells #[.int .i64 a0_0, .slice (some ad316) l0_1.length c0_1] 24 (0, 0)) (by (with_reducible repeat (first | refine blk_drewN ?_ _ | refine blk_drew ?_ | refine blk_alloc ?_ _)); exact BK309.out) hb); have n2_ := Aside0.mk (blk_below (g := gb310) (o := .cells #[.int .i64 a1_0, .int .i64 a1_1] 26 (0, 0)) (by (with_reducible repeat (first | refine blk_drewN ?_ _ | refine blk_drew ?_ | refine blk_alloc ?_ _)); exact BK310.out) hb); have n3_ := Aside0.mk (below_step (by repeat (first | (with_reducible first | exact HB.out | apply below_alloc | apply pw_below_drewN | apply below_drew1 | refine below_set ?_ GE309.out | refine below_set ?_ GE310.out) | exact HB.out)) hb); have n4_ := Aside0.mk (hbox); have n5_ := Aside0.mk ((by rw [hg]; exact (below_size (by repeat (first | (with_reducible first | exact HB.out | apply below_alloc | apply pw_below_drewN | apply below_drew1 | refine below_set ?_ GE309.out | refine below_set ?_ GE310.out) | exact HB.out))) : w.heap.size ≤ gb317)); have n6_ := Aside0.mk ((by rw [hg]; exact (below_size (by repeat (first | (with_reducible first | exact HB.out | apply below_alloc | apply pw_below_drewN | apply below_drew1 | refine below_set ?_ GE309.out | refine below_set ?_ GE310.out) | exact HB.out))) : w.heap.size ≤ gb317)); have n7_ := Aside0.mk ((by rw [hg]; exact Nat.ne_of_lt (blk_lt (g := gb309) (o := .cells #[.int .i64 a0_0, .slice (some ad316) l0_1.length c0_1] 24 (0, 0)) (by (with_reducible repeat (first | refine blk_drewN ?_ _ | refine blk_drew ?_ | refine blk_alloc ?_ _)); exact BK309.out)) : gb309 ≠ gb317)); have n8_ := Aside0.mk ((by rw [hg]; exact Nat.ne_of_gt (blk_lt (g := gb309) (o := .cells #[.int .i64 a0_0, .slice (some ad316) l0_1.length c0_1] 24 (0, 0)) (by (with_reducible repeat (first | refine blk_drewN ?_ _ | refine blk_drew ?_ | refine blk_alloc ?_ _)); exact BK309.out)) : gb317 ≠ gb309)); have n9_ := Aside0.mk ((by rw [hg]; exact Nat.ne_of_lt (blk_lt (g := gb310) (o := .cells #[.int .i64 a1_0, .int .i64 a1_1] 26 (0, 0)) (by (with_reducible repeat (first | refine blk_drewN ?_ _ | refine blk_drew ?_ | refine blk_alloc ?_ _)); exact BK310.out)) : gb310 ≠ gb317)); have n10_ := Aside0.mk ((by rw [hg]; exact Nat.ne_of_gt (blk_lt (g := gb310) (o := .cells #[.int .i64 a1_0, .int .i64 a1_1] 26 (0, 0)) (by (with_reducible repeat (first | refine blk_drewN ?_ _ | refine blk_drew ?_ | refine blk_alloc ?_ _)); exact BK310.out)) : gb317 ≠ gb310)); clear HO_9; clear BK309; clear BK310; clear HB; have HO_9 := n0_; have BK309 := n1_; have BK310 := n2_; have HB := n3_; have BK317 := n4_; have GW317 := n5_; have GE317 := n6_; have NB309_317 := n7_; have NB317_309 := n8_; have NB310_317 := n9_; have NB317_310 := n10_; clear n0_ n1_ n2_ n3_ n4_ n5_ n6_ n7_ n8_ n9_ n10_; clear hb hbox hg; have hnb45 := NB317_309.out; have hnc45 := NB309_317.out; have hnb46 := NB317_310.out; have hnc46 := NB310_317.out; have hcz47_0 : w44.cell? ⟨gb317, 0, none⟩ = some (.int .i64 0) := (blk_cell BK317.out 0).trans rfl; have hcz47_1 : w44.cell? ⟨gb317, 1, none⟩ = some (.int .i64 0) := (blk_cell BK317.out 1).trans rfl; have hcz47_2 : w44.cell? ⟨gb317, 2, none⟩ = some (.int .i64 0) := (blk_cell BK317.out 2).trans rfl; have hcz47_3 : w44.cell? ⟨gb317, 3, none⟩ = some (.int .i64 0) := (blk_cell BK317.out 3).trans rfl; have hfz47_0 := blk_frozen BK317.out 0; have hfz47_1 := blk_frozen BK317.out 1; have hfz47_2 := blk_frozen BK317.out 2; have hfz47_3 := blk_frozen BK317.out 3; have p318 : 0 ≤ (((rd_T58 l0_1 x12_3).f0) : Int) := of_decide_eq_true (by first | (with_reducible assumption) | assumption); have q318 : ((rd_T58 l0_1 x12_3).f0) < (x9_3.length : Int) := of_decide_eq_true (by first | (with_reducible assumption) | assumption); obtain ⟨ad318, e318, hx318_0⟩ := Kd.at_int (Kd.R_reads' HO_9.out).2.2 ((rd_T58 l0_1 x12_3).f0) p318 q318; obtain rfl : (⟨go21, 0, none⟩ : Addr) = ad318 := (by injection e318); (first | simp only [add_plain] at hx318_0 | simp only [add_at] at hx318_0 | simp only [Addr.add, Nat.zero_add] at hx318_0 | skip); have hn318_0 : (⟨go21, 0, none⟩ : Addr).block ≠ gb317 := Kd.own_blk (Kd.R_ne HO_9.out BK317.out (by decide)); have hn318_1 : (⟨go21, 0, none⟩ : Addr).block ≠ gb317 := Kd.own_blk (Kd.R_ne HO_9.out BK317.out (by decide)); have hn318_2 : (⟨go21, 0, none⟩ : Addr).block ≠ gb317 := Kd.own_blk (Kd.R_ne HO_9.out BK317.out (by decide)); have hn318_3 : (⟨go21, 0, none⟩ : Addr).block ≠ gb317 := Kd.own_blk (Kd.R_ne HO_9.out BK317.out (by decide)); replace hx318_0 := (cell_far (p := ⟨gb317, 0, none⟩) (by first | (rw [add_block]; exact hn318_0) | (show (Addr.add _ _).block ≠ _; rw [add_block]; exact hn318_0) | exact hn318_0) (.int .i64 ((rd_T58 l0_1 x12_3).f0))).trans hx318_0; replace hx318_0 := (cell_far (p := ⟨gb317, 1, none⟩) (by first | (rw [add_block]; exact hn318_1) | (show (Addr.add _ _).block ≠ _; rw [add_block]; exact hn318_1) | exact hn318_1) (.int .i64 ((rd_T58 l0_1 x12_3).f1))).trans hx318_0; replace hx318_0 := (cell_far (p := ⟨gb317, 2, none⟩) (by first | (rw [add_block]; exact hn318_2) | (show (Addr.add _ _).block ≠ _; rw [add_block]; exact hn318_2) | exact hn318_2) (.int .i64 ((rd_T58 l0_1 x12_3).f2.f0))).trans hx318_0; replace hx318_0 := (cell_far (p := ⟨gb317, 3, none⟩) (by first | (rw [add_block]; exact hn318_3) | (show (Addr.add _ _).block ≠ _; rw [add_block]; exact hn318_3) | exact hn318_3) (.int .i64 ((rd_T58 l0_1 x12_3).f2.f1))).trans hx318_0; clear hn318_0; clear hn318_1; clear hn318_2; clear hn318_3; replace p318 := eq_true p318; replace q318 := eq_true q318))
                                    (try simp only [Act.put, List.setIfInBounds_toArray, List.set_cons_zero, List.set_cons_succ])
                                    go_cut [67] (fun v67 wc => ∃ (kq : Nat) (x67_40 : Bool), v67 = .bool x67_40 ∧ Aside0 (x67_40 = true → a2 = true) ∧ Aside0 (forecourtref05_arrivals.j3 kq a2 a3 x9_3 x11_2 x12_3 (rd x9_3 ((rd_T58 l0_1 x12_3).f0)) x67_40 a0_0 l0_1 ((rd_T58 l0_1 x12_3).f0) ((rd_T58 l0_1 x12_3).f1) ((rd_T58 l0_1 x12_3).f2.f0) ((rd_T58 l0_1 x12_3).f2.f1) = some r) ∧ Aside0 (kq ≤ k3) ∧ Aside0 (Kd.R (Kd.int .i64) 2 wc w.heap.size (fun _ => True) (.slice (some ⟨go21, 0, none⟩) x9_3.length co22) x9_3) ∧ Aside0 (wc.heap[gb309]? = some (.cells #[.int .i64 a0_0, (.slice (some ad316) l0_1.length c0_1)] 24 (0, 0))) ∧ Aside0 (wc.heap[gb310]? = some (.cells #[.int .i64 a1_0, .int .i64 a1_1] 26 (0, 0))) ∧ Aside0 (wc.heap[gb317]? = some (.cells #[.int .i64 ((rd_T58 l0_1 x12_3).f0), .int .i64 ((rd_T58 l0_1 x12_3).f1), .int .i64 ((rd_T58 l0_1 x12_3).f2.f0), .int .i64 ((rd_T58 l0_1 x12_3).f2.f1)] 58 (0, 0))) ∧ Aside0 (Below w.heap.size w wc))
                                    case first =>
                                      have H := HC41.out
                                      clear HC41
                                      by_cases c48 : a2 = true
                                      · subst c48
                                        have H1 : (forecourtref05_arrivals.j3 k3 true a3 x9_3 x11_2 x12_3 (rd x9_3 ((rd_T58 l0_1 x12_3).f0)) (decide ((rd x9_3 ((rd_T58 l0_1 x12_3).f0)) ≤ ((rd_T58 l0_1 x12_3).f2.f0))) a0_0 l0_1 ((rd_T58 l0_1 x12_3).f0) ((rd_T58 l0_1 x12_3).f1) ((rd_T58 l0_1 x12_3).f2.f0) ((rd_T58 l0_1 x12_3).f2.f1)) = some r := by rw [if_pos rfl] at H; exact H
                                        clear H
                                        have H := H1
                                        clear H1
                                        have H' := Aside0.mk H
                                        clear H
                                        have hnb49 := NB317_309.out
                                        have hnc49 := NB309_317.out
                                        have hnb50 := NB317_310.out
                                        have hnc50 := NB310_317.out
                                        have hcz51_0 : w44.cell? ⟨gb317, 0, none⟩ = some (.int .i64 0) := (blk_cell BK317.out 0).trans rfl
                                        have hcz51_1 : w44.cell? ⟨gb317, 1, none⟩ = some (.int .i64 0) := (blk_cell BK317.out 1).trans rfl
                                        have hcz51_2 : w44.cell? ⟨gb317, 2, none⟩ = some (.int .i64 0) := (blk_cell BK317.out 2).trans rfl
                                        have hcz51_3 : w44.cell? ⟨gb317, 3, none⟩ = some (.int .i64 0) := (blk_cell BK317.out 3).trans rfl
                                        have hfz51_0 := blk_frozen BK317.out 0
                                        have hfz51_1 := blk_frozen BK317.out 1
                                        have hfz51_2 := blk_frozen BK317.out 2
                                        have hfz51_3 := blk_frozen BK317.out 3
                                        go_wp2
                                        go_meet
                                        case rel => exact ⟨_, (decide ((rd x9_3 ((rd_T58 l0_1 x12_3).f0)) ≤ ((rd_T58 l0_1 x12_3).f2.f0))), (by first | rfl | (simp; done) | (simp [*]; done)), ⟨by simp⟩, H', ⟨by have := HK1.out; have := HK2.out; have := HK3.out; first | omega | exact Nat.le_refl _⟩, ⟨by (try simp only [hl9_2]); (try simp only [hl9_3]); (with_reducible repeat (first | apply Kd.R_alloc | apply Kd.R_drewN | apply Kd.R_drew)); exact Kd.R_mono (Kd.R_far (p := ⟨gb317, 3, none⟩) (Kd.R_far (p := ⟨gb317, 2, none⟩) (Kd.R_far (p := ⟨gb317, 1, none⟩) (Kd.R_far (p := ⟨gb317, 0, none⟩) (Kd.R_types HO_9.out BK317.out (by decide)) (fun _ hk => hk.2) (.int .i64 ((rd_T58 l0_1 x12_3).f0))) (fun _ hk => hk.2) (.int .i64 ((rd_T58 l0_1 x12_3).f1))) (fun _ hk => hk.2) (.int .i64 ((rd_T58 l0_1 x12_3).f2.f0))) (fun _ hk => hk.2) (.int .i64 ((rd_T58 l0_1 x12_3).f2.f1))) (fun _ hk => trivial)⟩, ⟨by (try simp only [hl9_2]); (try simp only [hl9_3]); (with_reducible repeat (first | refine blk_drewN ?_ _ | refine blk_drew ?_ | refine blk_alloc ?_ _)); refine blk_far ?_ NB309_317.out _; (with_reducible repeat (first | refine blk_drewN ?_ _ | refine blk_drew ?_ | refine blk_alloc ?_ _)); refine blk_far ?_ NB309_317.out _; (with_reducible repeat (first | refine blk_drewN ?_ _ | refine blk_drew ?_ | refine blk_alloc ?_ _)); refine blk_far ?_ NB309_317.out _; (with_reducible repeat (first | refine blk_drewN ?_ _ | refine blk_drew ?_ | refine blk_alloc ?_ _)); refine blk_far ?_ NB309_317.out _; (with_reducible repeat (first | refine blk_drewN ?_ _ | refine blk_drew ?_ | refine blk_alloc ?_ _)); exact BK309.out⟩, ⟨by (try simp only [hl9_2]); (try simp only [hl9_3]); (with_reducible repeat (first | refine blk_drewN ?_ _ | refine blk_drew ?_ | refine blk_alloc ?_ _)); refine blk_far ?_ NB310_317.out _; (with_reducible repeat (first | refine blk_drewN ?_ _ | refine blk_drew ?_ | refine blk_alloc ?_ _)); refine blk_far ?_ NB310_317.out _; (with_reducible repeat (first | refine blk_drewN ?_ _ | refine blk_drew ?_ | refine blk_alloc ?_ _)); refine blk_far ?_ NB310_317.out _; (with_reducible repeat (first | refine blk_drewN ?_ _ | refine blk_drew ?_ | refine blk_alloc ?_ _)); refine blk_far ?_ NB310_317.out _; (with_reducible repeat (first | refine blk_drewN ?_ _ | refine blk_drew ?_ | refine blk_alloc ?_ _)); exact BK310.out⟩, ⟨by (try simp only [hl9_2]); (try simp only [hl9_3]); (with_reducible repeat (first | refine blk_drewN ?_ _ | refine blk_drew ?_ | refine blk_alloc ?_ _)); refine blk_put (cs := #[.int .i64 ((rd_T58 l0_1 x12_3).f0), .int .i64 ((rd_T58 l0_1 x12_3).f1), .int .i64 ((rd_T58 l0_1 x12_3).f2.f0), .int .i64 0]) ?_ 3 _ rfl; (with_reducible repeat (first | refine blk_drewN ?_ _ | refine blk_drew ?_ | refine blk_alloc ?_ _)); refine blk_put (cs := #[.int .i64 ((rd_T58 l0_1 x12_3).f0), .int .i64 ((rd_T58 l0_1 x12_3).f1), .int .i64 0, .int .i64 0]) ?_ 2 _ rfl; (with_reducible repeat (first | refine blk_drewN ?_ _ | refine blk_drew ?_ | refine blk_alloc ?_ _)); refine blk_put (cs := #[.int .i64 ((rd_T58 l0_1 x12_3).f0), .int .i64 0, .int .i64 0, .int .i64 0]) ?_ 1 _ rfl; (with_reducible repeat (first | refine blk_drewN ?_ _ | refine blk_drew ?_ | refine blk_alloc ?_ _)); refine blk_put (cs := #[.int .i64 0, .int .i64 0, .int .i64 0, .int .i64 0]) ?_ 0 _ rfl; (with_reducible repeat (first | refine blk_drewN ?_ _ | refine blk_drew ?_ | refine blk_alloc ?_ _)); exact BK317.out⟩, ⟨by repeat (first | (with_reducible first | exact HB.out | apply below_alloc | apply pw_below_drewN | apply below_drew1 | refine below_set ?_ GE309.out | refine below_set ?_ GE310.out | refine below_set ?_ GE317.out) | exact HB.out)⟩⟩
                                      · replace c48 := Bool.eq_false_iff.mpr c48
                                        subst c48
                                        have H1 : (forecourtref05_arrivals.j3 k3 false a3 x9_3 x11_2 x12_3 (rd x9_3 ((rd_T58 l0_1 x12_3).f0)) false a0_0 l0_1 ((rd_T58 l0_1 x12_3).f0) ((rd_T58 l0_1 x12_3).f1) ((rd_T58 l0_1 x12_3).f2.f0) ((rd_T58 l0_1 x12_3).f2.f1)) = some r := by rw [if_neg (show ¬ (false = true) by decide)] at H; exact H
                                        clear H
                                        have H := H1
                                        clear H1
                                        have H' := Aside0.mk H
                                        clear H
                                        go_wp2
                                        go_meet
                                        case rel => exact ⟨_, (false), (by first | rfl | (simp; done) | (simp [*]; done)), ⟨by simp⟩, H', ⟨by have := HK1.out; have := HK2.out; have := HK3.out; first | omega | exact Nat.le_refl _⟩, ⟨by (try simp only [hl9_2]); (try simp only [hl9_3]); (with_reducible repeat (first | apply Kd.R_alloc | apply Kd.R_drewN | apply Kd.R_drew)); exact Kd.R_mono (Kd.R_far (p := ⟨gb317, 3, none⟩) (Kd.R_far (p := ⟨gb317, 2, none⟩) (Kd.R_far (p := ⟨gb317, 1, none⟩) (Kd.R_far (p := ⟨gb317, 0, none⟩) (Kd.R_types HO_9.out BK317.out (by decide)) (fun _ hk => hk.2) (.int .i64 ((rd_T58 l0_1 x12_3).f0))) (fun _ hk => hk.2) (.int .i64 ((rd_T58 l0_1 x12_3).f1))) (fun _ hk => hk.2) (.int .i64 ((rd_T58 l0_1 x12_3).f2.f0))) (fun _ hk => hk.2) (.int .i64 ((rd_T58 l0_1 x12_3).f2.f1))) (fun _ hk => trivial)⟩, ⟨by (try simp only [hl9_2]); (try simp only [hl9_3]); (with_reducible repeat (first | refine blk_drewN ?_ _ | refine blk_drew ?_ | refine blk_alloc ?_ _)); refine blk_far ?_ NB309_317.out _; (with_reducible repeat (first | refine blk_drewN ?_ _ | refine blk_drew ?_ | refine blk_alloc ?_ _)); refine blk_far ?_ NB309_317.out _; (with_reducible repeat (first | refine blk_drewN ?_ _ | refine blk_drew ?_ | refine blk_alloc ?_ _)); refine blk_far ?_ NB309_317.out _; (with_reducible repeat (first | refine blk_drewN ?_ _ | refine blk_drew ?_ | refine blk_alloc ?_ _)); refine blk_far ?_ NB309_317.out _; (with_reducible repeat (first | refine blk_drewN ?_ _ | refine blk_drew ?_ | refine blk_alloc ?_ _)); exact BK309.out⟩, ⟨by (try simp only [hl9_2]); (try simp only [hl9_3]); (with_reducible repeat (first | refine blk_drewN ?_ _ | refine blk_drew ?_ | refine blk_alloc ?_ _)); refine blk_far ?_ NB310_317.out _; (with_reducible repeat (first | refine blk_drewN ?_ _ | refine blk_drew ?_ | refine blk_alloc ?_ _)); refine blk_far ?_ NB310_317.out _; (with_reducible repeat (first | refine blk_drewN ?_ _ | refine blk_drew ?_ | refine blk_alloc ?_ _)); refine blk_far ?_ NB310_317.out _; (with_reducible repeat (first | refine blk_drewN ?_ _ | refine blk_drew ?_ | refine blk_alloc ?_ _)); refine blk_far ?_ NB310_317.out _; (with_reducible repeat (first | refine blk_drewN ?_ _ | refine blk_drew ?_ | refine blk_alloc ?_ _)); exact BK310.out⟩, ⟨by (try simp only [hl9_2]); (try simp only [hl9_3]); (with_reducible repeat (first | refine blk_drewN ?_ _ | refine blk_drew ?_ | refine blk_alloc ?_ _)); refine blk_put (cs := #[.int .i64 ((rd_T58 l0_1 x12_3).f0), .int .i64 ((rd_T58 l0_1 x12_3).f1), .int .i64 ((rd_T58 l0_1 x12_3).f2.f0), .int .i64 0]) ?_ 3 _ rfl; (with_reducible repeat (first | refine blk_drewN ?_ _ | refine blk_drew ?_ | refine blk_alloc ?_ _)); refine blk_put (cs := #[.int .i64 ((rd_T58 l0_1 x12_3).f0), .int .i64 ((rd_T58 l0_1 x12_3).f1), .int .i64 0, .int .i64 0]) ?_ 2 _ rfl; (with_reducible repeat (first | refine blk_drewN ?_ _ | refine blk_drew ?_ | refine blk_alloc ?_ _)); refine blk_put (cs := #[.int .i64 ((rd_T58 l0_1 x12_3).f0), .int .i64 0, .int .i64 0, .int .i64 0]) ?_ 1 _ rfl; (with_reducible repeat (first | refine blk_drewN ?_ _ | refine blk_drew ?_ | refine blk_alloc ?_ _)); refine blk_put (cs := #[.int .i64 0, .int .i64 0, .int .i64 0, .int .i64 0]) ?_ 0 _ rfl; (with_reducible repeat (first | refine blk_drewN ?_ _ | refine blk_drew ?_ | refine blk_alloc ?_ _)); exact BK317.out⟩, ⟨by repeat (first | (with_reducible first | exact HB.out | apply below_alloc | apply pw_below_drewN | apply below_drew1 | refine below_set ?_ GE309.out | refine below_set ?_ GE310.out | refine below_set ?_ GE317.out) | exact HB.out)⟩⟩
                                    case rest =>
                                      clear HC41
                                      try clear c1
                                      try clear p1
                                      try clear q1
                                      try clear hx1
                                      try clear c2
                                      try clear p2
                                      try clear q2
                                      try clear hx2
                                      try clear c3
                                      try clear p3
                                      try clear q3
                                      try clear hx3
                                      try clear c4
                                      try clear c5
                                      try clear c5b0
                                      try clear c5b1
                                      try clear c6
                                      try clear c6b0
                                      try clear c6b1
                                      try clear p6
                                      try clear c9
                                      try clear c13
                                      try clear c13b0
                                      try clear c14
                                      try clear c14b0
                                      try clear p15
                                      try clear q15
                                      try clear hx15
                                      try clear hf15
                                      try clear c19
                                      try clear c19b0
                                      try clear c20
                                      try clear c20b0
                                      try clear p21
                                      try clear q21
                                      try clear hx21
                                      try clear hf21
                                      try clear c23
                                      try clear c27
                                      try clear c27b0
                                      try clear c28
                                      try clear c30
                                      try clear c30b0
                                      try clear c31
                                      try clear c31b0
                                      try clear p31
                                      try clear q31
                                      try clear hx31
                                      try clear c32
                                      try clear c32b0
                                      try clear c32b1
                                      try clear c33
                                      try clear c36
                                      try clear c37
                                      try clear c39
                                      try clear c39b0
                                      try clear c40
                                      try clear c40b0
                                      try clear c42
                                      try clear c45
                                      try clear c46
                                      try clear c48
                                      try clear c49
                                      try clear c50
                                      try clear hcz10_0
                                      try clear hcz10_1
                                      try clear hcz24_0
                                      try clear hcz24_1
                                      try clear hcz29_0
                                      try clear hcz29_1
                                      try clear hcz34_0
                                      try clear hcz34_1
                                      try clear hcz38_0
                                      try clear hcz38_1
                                      try clear hcz38_2
                                      try clear hcz38_3
                                      try clear hcz43_0
                                      try clear hcz43_1
                                      try clear hcz47_0
                                      try clear hcz47_1
                                      try clear hcz47_2
                                      try clear hcz47_3
                                      try clear hcz51_0
                                      try clear hcz51_1
                                      try clear hcz51_2
                                      try clear hcz51_3
                                      try clear hfz10_0
                                      try clear hfz10_1
                                      try clear hfz24_0
                                      try clear hfz24_1
                                      try clear hfz29_0
                                      try clear hfz29_1
                                      try clear hfz34_0
                                      try clear hfz34_1
                                      try clear hfz38_0
                                      try clear hfz38_1
                                      try clear hfz38_2
                                      try clear hfz38_3
                                      try clear hfz43_0
                                      try clear hfz43_1
                                      try clear hfz47_0
                                      try clear hfz47_1
                                      try clear hfz47_2
                                      try clear hfz47_3
                                      try clear hfz51_0
                                      try clear hfz51_1
                                      try clear hfz51_2
                                      try clear hfz51_3
                                      try clear hx15_0
                                      try clear hx21_0
                                      try clear hx316_0
                                      try clear hx316_1
                                      try clear hx316_2
                                      try clear hx316_3
                                      try clear hx318_0
                                      try clear p1
                                      try clear p15
                                      try clear p2
                                      try clear p21
                                      try clear p316
                                      try clear p318
                                      try clear p6
                                      try clear q1
                                      try clear q15
                                      try clear q2
                                      try clear q21
                                      try clear q316
                                      try clear q318
                                      obtain ⟨kq, x67_40, rfl, HXX, HA, HJ40, HO_9, BK309, BK310, BK317, HB⟩ := hcut
                                      cases kq with
                                      | zero => exact absurd HA.out (by simp [forecourtref05_arrivals.j3])
                                      | succ kj40 =>
                                        have H := HA.out
                                        clear HA
                                        simp only [forecourtref05_arrivals.j3] at H
                                        by_cases c52 : x67_40 = true
                                        · subst c52
                                          have H1 : (if 0 ≤ ((rd_T58 l0_1 x12_3).f1) then (if ((rd_T58 l0_1 x12_3).f1) < (x9_3.length : Int) then ((some (x9_3.set (((rd_T58 l0_1 x12_3).f1) : Int).toNat (mn (rd x9_3 ((rd_T58 l0_1 x12_3).f1)) ((rd_T58 l0_1 x12_3).f2.f1)) : List Int)).bind fun y320 => (if a2 = true then (forecourtref05_arrivals.l2 kj40 a2 a3 y320 x11_2 (wrap64 (x12_3 + 1)) a0_0 l0_1) else (if (rd x9_3 ((rd_T58 l0_1 x12_3).f0)) ≤ ((rd_T58 l0_1 x12_3).f2.f1) then (forecourtref05_arrivals.l2 kj40 a2 a3 (y320.set (((rd_T58 l0_1 x12_3).f1) : Int).toNat (mn (rd y320 ((rd_T58 l0_1 x12_3).f1)) (mx (rd x9_3 ((rd_T58 l0_1 x12_3).f0)) ((rd_T58 l0_1 x12_3).f2.f0)))) x11_2 (wrap64 (x12_3 + 1)) a0_0 l0_1) else (forecourtref05_arrivals.l2 kj40 a2 a3 y320 x11_2 (wrap64 (x12_3 + 1)) a0_0 l0_1)))) else (none)) else (none)) = some r := by rw [if_pos rfl] at H; exact H
                                          clear H
                                          have H := H1
                                          clear H1
                                          by_cases c53 : 0 ≤ ((rd_T58 l0_1 x12_3).f1)
                                          · rw [if_pos c53] at H
                                            have c53b0 : decide (0 ≤ ((rd_T58 l0_1 x12_3).f1)) = true := decide_eq_true c53
                                            clear c53
                                            by_cases c54 : ((rd_T58 l0_1 x12_3).f1) < (x9_3.length : Int)
                                            · rw [if_pos c54] at H
                                              have c54b0 : decide (((rd_T58 l0_1 x12_3).f1) < (x9_3.length : Int)) = true := decide_eq_true c54
                                              clear c54
                                              obtain ⟨ji55, hji55⟩ : ∃ j_ : Int, (mn (rd x9_3 ((rd_T58 l0_1 x12_3).f1)) ((rd_T58 l0_1 x12_3).f2.f1)) = j_ := ⟨_, rfl⟩
                                              replace H : ((some (x9_3.set (((rd_T58 l0_1 x12_3).f1) : Int).toNat (ji55) : List Int)).bind fun y320 => (if a2 = true then (forecourtref05_arrivals.l2 kj40 a2 a3 y320 x11_2 (wrap64 (x12_3 + 1)) a0_0 l0_1) else (if (rd x9_3 ((rd_T58 l0_1 x12_3).f0)) ≤ ((rd_T58 l0_1 x12_3).f2.f1) then (forecourtref05_arrivals.l2 kj40 a2 a3 (y320.set (((rd_T58 l0_1 x12_3).f1) : Int).toNat (mn (rd y320 ((rd_T58 l0_1 x12_3).f1)) (mx (rd x9_3 ((rd_T58 l0_1 x12_3).f0)) ((rd_T58 l0_1 x12_3).f2.f0)))) x11_2 (wrap64 (x12_3 + 1)) a0_0 l0_1) else (forecourtref05_arrivals.l2 kj40 a2 a3 y320 x11_2 (wrap64 (x12_3 + 1)) a0_0 l0_1)))) = some r := by first | (rw [hji55] at H; exact H) | (simp only [hji55] at H ⊢; exact H)
                                              have hji55_ : (if ((rd_T58 l0_1 x12_3).f2.f1) < (rd x9_3 ((rd_T58 l0_1 x12_3).f1)) then ((rd_T58 l0_1 x12_3).f2.f1) else (rd x9_3 ((rd_T58 l0_1 x12_3).f1))) = ji55 := hji55
                                              obtain ⟨y320, hy320⟩ : ∃ y_ : List Int, y_ = (x9_3.set (((rd_T58 l0_1 x12_3).f1) : Int).toNat (ji55)) := ⟨_, rfl⟩
                                              replace H : (if a2 = true then (forecourtref05_arrivals.l2 kj40 a2 a3 y320 x11_2 (wrap64 (x12_3 + 1)) a0_0 l0_1) else (if (rd x9_3 ((rd_T58 l0_1 x12_3).f0)) ≤ ((rd_T58 l0_1 x12_3).f2.f1) then (forecourtref05_arrivals.l2 kj40 a2 a3 (y320.set (((rd_T58 l0_1 x12_3).f1) : Int).toNat (mn (rd y320 ((rd_T58 l0_1 x12_3).f1)) (mx (rd x9_3 ((rd_T58 l0_1 x12_3).f0)) ((rd_T58 l0_1 x12_3).f2.f0)))) x11_2 (wrap64 (x12_3 + 1)) a0_0 l0_1) else (forecourtref05_arrivals.l2 kj40 a2 a3 y320 x11_2 (wrap64 (x12_3 + 1)) a0_0 l0_1))) = some r := by first | (rw [hy320]; with_reducible exact H) | (have H2_ := (Option.bind_some _ _).symm.trans H; rw [hy320]; with_reducible exact H2_) | (have H2_ := (Option.bind_some _ _).symm.trans H; with_reducible exact H2_) | with_reducible exact H | (rw [hy320]; exact H) | exact H
                                              have Ny320 := Aside0.mk hy320
                                              clear hy320
                                              by_cases c57 : a2 = true
                                              · subst c57
                                                have H1 : (forecourtref05_arrivals.l2 kj40 true a3 y320 x11_2 (wrap64 (x12_3 + 1)) a0_0 l0_1) = some r := by rw [if_pos rfl] at H; exact H
                                                clear H
                                                have H := H1
                                                clear H1
                                                have H' := Aside0.mk H
                                                clear H
                                                try go_wp2
                                                have n0_ := Aside0.mk (Kd.R_drew HO_9.out)
                                                have n1_ := Aside0.mk (blk_drew BK309.out)
                                                have n2_ := Aside0.mk (blk_drew BK310.out)
                                                have n3_ := Aside0.mk (blk_drew BK317.out)
                                                have n4_ := Aside0.mk (below_drew1 HB.out)
                                                clear HO_9
                                                clear BK309
                                                clear BK310
                                                clear BK317
                                                clear HB
                                                have HO_9 := n0_
                                                have BK309 := n1_
                                                have BK310 := n2_
                                                have BK317 := n3_
                                                have HB := n4_
                                                clear n0_ n1_ n2_ n3_ n4_
                                                have p319 : 0 ≤ (((rd_T58 l0_1 x12_3).f1) : Int) := of_decide_eq_true (by first | (with_reducible assumption) | assumption)
                                                have q319 : ((rd_T58 l0_1 x12_3).f1) < (x9_3.length : Int) := of_decide_eq_true (by first | (with_reducible assumption) | assumption)
                                                obtain ⟨ad319, e319, hx319_0⟩ := Kd.at_int (Kd.R_reads' HO_9.out).2.2 ((rd_T58 l0_1 x12_3).f1) p319 q319
                                                obtain rfl : (⟨go21, 0, none⟩ : Addr) = ad319 := (by injection e319)
                                                (first | simp only [add_plain] at hx319_0 | simp only [add_at] at hx319_0 | simp only [Addr.add, Nat.zero_add] at hx319_0 | skip)
                                                replace p319 := eq_true p319
                                                replace q319 := eq_true q319
                                                have p56 : 0 ≤ (((rd_T58 l0_1 x12_3).f1) : Int) := of_decide_eq_true (by first | (with_reducible assumption) | assumption)
                                                have q56 : (((rd_T58 l0_1 x12_3).f1) : Int) < ((x9_3.length : Int) : Int) := of_decide_eq_true (by first | (with_reducible assumption) | assumption)
                                                obtain ⟨hx56_0, hf56_0⟩ := Kd.R_celln 0 HO_9.out (((rd_T58 l0_1 x12_3).f1) : Int) p56 q56
                                                replace p56 := eq_true p56
                                                replace q56 := eq_true q56
                                                have HP59 := Kd.R_putn HO_9.out (((rd_T58 l0_1 x12_3).f1) : Int) ji55
                                                rw [← Ny320.out] at HP59
                                                have HQ59 := Aside0.mk HP59
                                                clear HP59
                                                refine start_ (n := 14) (S := fun w' => w'.cell? ⟨gb317, 0, none⟩ = some (.int .i64 ((rd_T58 l0_1 x12_3).f0)) ∧ w'.cell? ⟨gb317, 1, none⟩ = some (.int .i64 ((rd_T58 l0_1 x12_3).f1)) ∧ w'.cell? ⟨gb317, 2, none⟩ = some (.int .i64 ((rd_T58 l0_1 x12_3).f2.f0)) ∧ w'.cell? ⟨gb317, 3, none⟩ = some (.int .i64 ((rd_T58 l0_1 x12_3).f2.f1)) ∧ w'.cell? ⟨go21, (((rd_T58 l0_1 x12_3).f1)).toNat, none⟩ = some (.int .i64 (rd x9_3 ((rd_T58 l0_1 x12_3).f1)))) (ds := [13]) #[false, false, false, false, false, false, false, false, false, false, false, false, false, false] (by kernel_rfl) rfl rfl ⟨(blk_cell BK317.out 0).trans rfl, (blk_cell BK317.out 1).trans rfl, (blk_cell BK317.out 2).trans rfl, (blk_cell BK317.out 3).trans rfl, hx319_0⟩ (fun hHeld => ?_); refine with_tabW forecourtref05_arrivals.tab17 forecourtref05_arrivals.bits17 (fun HT_ HW_ => ?_)
                                                generalize wc.drew = w58 at HO_9 BK309 BK310 BK317 HB HQ59 hf56_0 hx319_0 hx56_0 hHeld ⊢
                                                refine pure_ (i := 0) (N := some 68) (v := ?_) (a' := ?_) #[true, false, false, false, false, false, false, false, false, false, false, false, false, false] rfl rfl (any_of HT_.out (by kernel_rfl)) (fun _ _ _ h => h) (Or.inl ⟨by rfl, ?_⟩) ?_ ?_
                                                rotate_left
                                                · intro w'
                                                  go_simp
                                                  with_reducible rfl
                                                rotate_left
                                                · simp only [Act.put, List.setIfInBounds_toArray, List.set_cons_zero, List.set_cons_succ, i64_w, i32_w]
                                                  rfl
                                                refine pure_ (i := 1) (N := some 69) (v := ?_) (a' := ?_) #[true, true, false, false, false, false, false, false, false, false, false, false, false, false] rfl rfl (any_of HT_.out (by kernel_rfl)) (fun _ _ _ h => h) (Or.inl ⟨by rfl, ?_⟩) ?_ ?_
                                                rotate_left
                                                · intro w'
                                                  go_simp
                                                  with_reducible rfl
                                                rotate_left
                                                · simp only [Act.put, List.setIfInBounds_toArray, List.set_cons_zero, List.set_cons_succ, i64_w, i32_w]
                                                  rfl
                                                refine pure_ (i := 3) (N := some 71) (v := ?_) (a' := ?_) #[true, true, false, true, false, false, false, false, false, false, false, false, false, false] rfl rfl (any_of HT_.out (by kernel_rfl)) (fun _ _ _ h => h) (Or.inl ⟨by rfl, ?_⟩) ?_ ?_
                                                rotate_left
                                                · intro w'
                                                  go_simp
                                                  with_reducible rfl
                                                rotate_left
                                                · simp only [Act.put, List.setIfInBounds_toArray, List.set_cons_zero, List.set_cons_succ, i64_w, i32_w]
                                                  rfl
                                                refine pure_ (i := 4) (N := some 72) (v := ?_) (a' := ?_) #[true, true, false, true, true, false, false, false, false, false, false, false, false, false] rfl rfl (any_of HT_.out (by kernel_rfl)) (fun _ _ _ h => h) (Or.inl ⟨by rfl, ?_⟩) ?_ ?_
                                                rotate_left
                                                · intro w'
                                                  go_simp
                                                  with_reducible rfl
                                                rotate_left
                                                · simp only [Act.put, List.setIfInBounds_toArray, List.set_cons_zero, List.set_cons_succ, i64_w, i32_w]
                                                  rfl
                                                refine pure_ (i := 8) (N := some 76) (v := ?_) (a' := ?_) #[true, true, false, true, true, false, false, false, true, false, false, false, false, false] rfl rfl (any_of HT_.out (by kernel_rfl)) (fun _ _ _ h => h) (Or.inl ⟨by rfl, ?_⟩) ?_ ?_
                                                rotate_left
                                                · intro w'
                                                  go_simp
                                                  with_reducible rfl
                                                rotate_left
                                                · simp only [Act.put, List.setIfInBounds_toArray, List.set_cons_zero, List.set_cons_succ, i64_w, i32_w]
                                                  rfl
                                                refine pure_ (i := 9) (N := some 77) (v := ?_) (a' := ?_) #[true, true, false, true, true, false, false, false, true, true, false, false, false, false] rfl rfl (any_of HT_.out (by kernel_rfl)) (fun _ _ _ h => h) (Or.inl ⟨by rfl, ?_⟩) ?_ ?_
                                                rotate_left
                                                · intro w'
                                                  go_simp
                                                  with_reducible rfl
                                                rotate_left
                                                · simp only [Act.put, List.setIfInBounds_toArray, List.set_cons_zero, List.set_cons_succ, i64_w, i32_w]
                                                  rfl
                                                refine take_ (i := 2) (N := some 70) (v := ?_) (a' := ?_) #[true, true, true, true, true, false, false, false, true, true, false, false, false, false] rfl rfl (take_ofW HT_.out HW_.out (by kernel_rfl)) (fun _ _ _ h => h) (Or.inl ⟨by rfl, ?_⟩) hHeld ?_ ?_
                                                rotate_left
                                                · rintro w' ⟨s0, s1, s2, s3, s4⟩
                                                  go_simp
                                                  with_reducible rfl
                                                rotate_left
                                                · simp only [Act.put, List.setIfInBounds_toArray, List.set_cons_zero, List.set_cons_succ, i64_w, i32_w]
                                                  rfl
                                                refine take_ (i := 5) (N := some 73) (v := ?_) (a' := ?_) #[true, true, true, true, true, true, false, false, true, true, false, false, false, false] rfl rfl (take_ofW HT_.out HW_.out (by kernel_rfl)) (fun _ _ _ h => h) (Or.inl ⟨by rfl, ?_⟩) hHeld ?_ ?_
                                                rotate_left
                                                · rintro w' ⟨s0, s1, s2, s3, s4⟩
                                                  go_simp
                                                  with_reducible rfl
                                                rotate_left
                                                · simp only [Act.put, List.setIfInBounds_toArray, List.set_cons_zero, List.set_cons_succ, i64_w, i32_w]
                                                  rfl
                                                refine pure_ (i := 6) (N := some 74) (v := ?_) (a' := ?_) #[true, true, true, true, true, true, true, false, true, true, false, false, false, false] rfl rfl (any_of HT_.out (by kernel_rfl)) (fun _ _ _ h => h) (Or.inl ⟨by rfl, ?_⟩) ?_ ?_
                                                rotate_left
                                                · intro w'
                                                  go_simp
                                                  with_reducible rfl
                                                rotate_left
                                                · simp only [Act.put, List.setIfInBounds_toArray, List.set_cons_zero, List.set_cons_succ, i64_w, i32_w]
                                                  rfl
                                                refine take_ (i := 7) (N := some 75) (v := ?_) (a' := ?_) #[true, true, true, true, true, true, true, true, true, true, false, false, false, false] rfl rfl (take_ofW HT_.out HW_.out (by kernel_rfl)) (fun _ _ _ h => h) (Or.inl ⟨by rfl, ?_⟩) hHeld ?_ ?_
                                                rotate_left
                                                · rintro w' ⟨s0, s1, s2, s3, s4⟩
                                                  go_simp
                                                  with_reducible rfl
                                                rotate_left
                                                · simp only [Act.put, List.setIfInBounds_toArray, List.set_cons_zero, List.set_cons_succ, i64_w, i32_w]
                                                  rfl
                                                refine take_ (i := 10) (N := some 78) (v := ?_) (a' := ?_) #[true, true, true, true, true, true, true, true, true, true, true, false, false, false] rfl rfl (take_ofW HT_.out HW_.out (by kernel_rfl)) (fun _ _ _ h => h) (Or.inl ⟨by rfl, ?_⟩) hHeld ?_ ?_
                                                rotate_left
                                                · rintro w' ⟨s0, s1, s2, s3, s4⟩
                                                  go_simp
                                                  with_reducible rfl
                                                rotate_left
                                                · simp only [Act.put, List.setIfInBounds_toArray, List.set_cons_zero, List.set_cons_succ, i64_w, i32_w]
                                                  rfl
                                                refine pure_ (i := 11) (N := some 79) (v := ?_) (a' := ?_) #[true, true, true, true, true, true, true, true, true, true, true, true, false, false] rfl rfl (any_of HT_.out (by kernel_rfl)) (fun _ _ _ h => h) (Or.inl ⟨by rfl, ?_⟩) ?_ ?_
                                                rotate_left
                                                · intro w'
                                                  go_simp
                                                  with_reducible rfl
                                                rotate_left
                                                · simp only [Act.put, List.setIfInBounds_toArray, List.set_cons_zero, List.set_cons_succ, i64_w, i32_w]
                                                  rfl
                                                refine pure_ (i := 12) (N := some 80) (v := ?_) (a' := ?_) #[true, true, true, true, true, true, true, true, true, true, true, true, true, false] rfl rfl (any_of HT_.out (by kernel_rfl)) (fun _ _ _ h => h) (Or.inl ⟨by rfl, ?_⟩) ?_ ?_
                                                rotate_left
                                                · intro w'
                                                  go_simp
                                                  with_reducible rfl
                                                rotate_left
                                                · simp only [Act.put, List.setIfInBounds_toArray, List.set_cons_zero, List.set_cons_succ, i64_w, i32_w]
                                                  rfl
                                                refine last_ (i := 13) (N := none) #[true, true, true, true, true, true, true, true, true, true, true, true, true, true] rfl rfl (one_of HT_.out (by kernel_rfl)) (by decide) (fun K hK => ?_)
                                                refine skip_ (w1 := ?_) (by rfl) rfl ?_ ?_
                                                rotate_left
                                                · go_simp
                                                  rfl
                                                refine hK.out _ _ ?_
                                                clear hK K
                                                refine done_ (done_of HT_.out (by kernel_rfl)) ?_
                                                try go_wp2
                                                (try simp only [← hl9_3])
                                                go_roundg kj40
                                                case measure => have := HK1.out; have := HK2.out; have := HK3.out; have := HJ40.out; omega
                                                case rel => exact ⟨(y320), (wrap64 (x12_3 + 1)), (by first | rfl | (simp; done) | (simp [*]; done)), H', ⟨by have := HK1.out; have := HK2.out; have := HK3.out; have := HJ40.out; omega⟩, ⟨by (try simp only [hl9_2]); (try simp only [hl9_3]); (with_reducible repeat (first | apply Kd.R_alloc | apply Kd.R_drewN | apply Kd.R_drew)); exact HQ59.out⟩, ⟨by (try simp only [hl9_2]); (try simp only [hl9_3]); (with_reducible repeat (first | refine blk_drewN ?_ _ | refine blk_drew ?_ | refine blk_alloc ?_ _)); refine blk_far ?_ (by have h_ := Kd.R_ne HO_9.out BK309.out (by decide); intro e_; exact h_ (by rw [e_]; rfl)) _; (with_reducible repeat (first | refine blk_drewN ?_ _ | refine blk_drew ?_ | refine blk_alloc ?_ _)); exact BK309.out⟩, ⟨by (try simp only [hl9_2]); (try simp only [hl9_3]); (with_reducible repeat (first | refine blk_drewN ?_ _ | refine blk_drew ?_ | refine blk_alloc ?_ _)); refine blk_far ?_ (by have h_ := Kd.R_ne HO_9.out BK310.out (by decide); intro e_; exact h_ (by rw [e_]; rfl)) _; (with_reducible repeat (first | refine blk_drewN ?_ _ | refine blk_drew ?_ | refine blk_alloc ?_ _)); exact BK310.out⟩, ⟨by repeat (first | (with_reducible first | exact HB.out | apply below_alloc | apply pw_below_drewN | apply below_drew1 | refine below_set ?_ GB21.out | refine below_set ?_ GE309.out | refine below_set ?_ GE310.out | refine below_set ?_ GE317.out) | exact HB.out)⟩⟩
                                              · exact absurd (HXX.out rfl) c57
                                            · rw [if_neg c54] at H
                                              exact absurd H (by simp)
                                          · rw [if_neg c53] at H
                                            exact absurd H (by simp)
                                        · replace c52 := Bool.eq_false_iff.mpr c52
                                          subst c52
                                          have H1 : (if a2 = true then (forecourtref05_arrivals.l2 kj40 a2 a3 x9_3 x11_2 (wrap64 (x12_3 + 1)) a0_0 l0_1) else (if (rd x9_3 ((rd_T58 l0_1 x12_3).f0)) ≤ ((rd_T58 l0_1 x12_3).f2.f1) then (if 0 ≤ ((rd_T58 l0_1 x12_3).f1) then (if ((rd_T58 l0_1 x12_3).f1) < (x9_3.length : Int) then (forecourtref05_arrivals.l2 kj40 a2 a3 (x9_3.set (((rd_T58 l0_1 x12_3).f1) : Int).toNat (mn (rd x9_3 ((rd_T58 l0_1 x12_3).f1)) (mx (rd x9_3 ((rd_T58 l0_1 x12_3).f0)) ((rd_T58 l0_1 x12_3).f2.f0)))) x11_2 (wrap64 (x12_3 + 1)) a0_0 l0_1) else (none)) else (none)) else (forecourtref05_arrivals.l2 kj40 a2 a3 x9_3 x11_2 (wrap64 (x12_3 + 1)) a0_0 l0_1))) = some r := by rw [if_neg (show ¬ (false = true) by decide)] at H; exact H
                                          clear H
                                          have H := H1
                                          clear H1
                                          by_cases c77 : a2 = true
                                          · subst c77
                                            have H1 : (forecourtref05_arrivals.l2 kj40 true a3 x9_3 x11_2 (wrap64 (x12_3 + 1)) a0_0 l0_1) = some r := by rw [if_pos rfl] at H; exact H
                                            clear H
                                            have H := H1
                                            clear H1
                                            have H' := Aside0.mk H
                                            clear H
                                            go_wp2
                                            (try simp only [← hl9_3])
                                            go_roundg kj40
                                            case measure => have := HK1.out; have := HK2.out; have := HK3.out; have := HJ40.out; omega
                                            case rel => exact ⟨(x9_3), (wrap64 (x12_3 + 1)), (by first | rfl | (simp; done) | (simp [*]; done)), H', ⟨by have := HK1.out; have := HK2.out; have := HK3.out; have := HJ40.out; omega⟩, ⟨by (try simp only [hl9_2]); (try simp only [hl9_3]); (with_reducible repeat (first | apply Kd.R_alloc | apply Kd.R_drewN | apply Kd.R_drew)); exact HO_9.out⟩, ⟨by (try simp only [hl9_2]); (try simp only [hl9_3]); (with_reducible repeat (first | refine blk_drewN ?_ _ | refine blk_drew ?_ | refine blk_alloc ?_ _)); exact BK309.out⟩, ⟨by (try simp only [hl9_2]); (try simp only [hl9_3]); (with_reducible repeat (first | refine blk_drewN ?_ _ | refine blk_drew ?_ | refine blk_alloc ?_ _)); exact BK310.out⟩, ⟨by repeat (first | (with_reducible first | exact HB.out | apply below_alloc | apply pw_below_drewN | apply below_drew1 | refine below_set ?_ GE309.out | refine below_set ?_ GE310.out | refine below_set ?_ GE317.out) | exact HB.out)⟩⟩
                                          · replace c77 := Bool.eq_false_iff.mpr c77
                                            subst c77
                                            have H1 : (if (rd x9_3 ((rd_T58 l0_1 x12_3).f0)) ≤ ((rd_T58 l0_1 x12_3).f2.f1) then (if 0 ≤ ((rd_T58 l0_1 x12_3).f1) then (if ((rd_T58 l0_1 x12_3).f1) < (x9_3.length : Int) then (forecourtref05_arrivals.l2 kj40 false a3 (x9_3.set (((rd_T58 l0_1 x12_3).f1) : Int).toNat (mn (rd x9_3 ((rd_T58 l0_1 x12_3).f1)) (mx (rd x9_3 ((rd_T58 l0_1 x12_3).f0)) ((rd_T58 l0_1 x12_3).f2.f0)))) x11_2 (wrap64 (x12_3 + 1)) a0_0 l0_1) else (none)) else (none)) else (forecourtref05_arrivals.l2 kj40 false a3 x9_3 x11_2 (wrap64 (x12_3 + 1)) a0_0 l0_1)) = some r := by rw [if_neg (show ¬ (false = true) by decide)] at H; exact H
                                            clear H
                                            have H := H1
                                            clear H1
                                            by_cases c78 : (rd x9_3 ((rd_T58 l0_1 x12_3).f0)) ≤ ((rd_T58 l0_1 x12_3).f2.f1)
                                            · rw [if_pos c78] at H
                                              have c78b0 : decide ((rd x9_3 ((rd_T58 l0_1 x12_3).f0)) ≤ ((rd_T58 l0_1 x12_3).f2.f1)) = true := decide_eq_true c78
                                              clear c78
                                              by_cases c79 : 0 ≤ ((rd_T58 l0_1 x12_3).f1)
                                              · rw [if_pos c79] at H
                                                have c79b0 : decide (0 ≤ ((rd_T58 l0_1 x12_3).f1)) = true := decide_eq_true c79
                                                clear c79
                                                by_cases c80 : ((rd_T58 l0_1 x12_3).f1) < (x9_3.length : Int)
                                                · rw [if_pos c80] at H
                                                  have c80b0 : decide (((rd_T58 l0_1 x12_3).f1) < (x9_3.length : Int)) = true := decide_eq_true c80
                                                  clear c80
                                                  obtain ⟨ji81, hji81⟩ : ∃ j_ : Int, (mx (rd x9_3 ((rd_T58 l0_1 x12_3).f0)) ((rd_T58 l0_1 x12_3).f2.f0)) = j_ := ⟨_, rfl⟩
                                                  replace H : (forecourtref05_arrivals.l2 kj40 false a3 (x9_3.set (((rd_T58 l0_1 x12_3).f1) : Int).toNat (mn (rd x9_3 ((rd_T58 l0_1 x12_3).f1)) (ji81))) x11_2 (wrap64 (x12_3 + 1)) a0_0 l0_1) = some r := by first | (rw [hji81] at H; exact H) | (simp only [hji81] at H ⊢; exact H)
                                                  have hji81_ : (if (rd x9_3 ((rd_T58 l0_1 x12_3).f0)) < ((rd_T58 l0_1 x12_3).f2.f0) then ((rd_T58 l0_1 x12_3).f2.f0) else (rd x9_3 ((rd_T58 l0_1 x12_3).f0))) = ji81 := hji81
                                                  obtain ⟨ji82, hji82⟩ : ∃ j_ : Int, (mn (rd x9_3 ((rd_T58 l0_1 x12_3).f1)) (ji81)) = j_ := ⟨_, rfl⟩
                                                  replace H : (forecourtref05_arrivals.l2 kj40 false a3 (x9_3.set (((rd_T58 l0_1 x12_3).f1) : Int).toNat (ji82)) x11_2 (wrap64 (x12_3 + 1)) a0_0 l0_1) = some r := by first | (rw [hji82] at H; exact H) | (simp only [hji82] at H ⊢; exact H)
                                                  have hji82_ : (if (ji81) < (rd x9_3 ((rd_T58 l0_1 x12_3).f1)) then (ji81) else (rd x9_3 ((rd_T58 l0_1 x12_3).f1))) = ji82 := hji82
                                                  obtain ⟨y324, hy324⟩ : ∃ y_ : List Int, y_ = (x9_3.set (((rd_T58 l0_1 x12_3).f1) : Int).toNat (ji82)) := ⟨_, rfl⟩
                                                  replace H : (forecourtref05_arrivals.l2 kj40 false a3 y324 x11_2 (wrap64 (x12_3 + 1)) a0_0 l0_1) = some r := by first | (rw [hy324]; with_reducible exact H) | (have H2_ := (Option.bind_some _ _).symm.trans H; rw [hy324]; with_reducible exact H2_) | (have H2_ := (Option.bind_some _ _).symm.trans H; with_reducible exact H2_) | with_reducible exact H | (rw [hy324]; exact H) | exact H
                                                  have Ny324 := Aside0.mk hy324
                                                  clear hy324
                                                  have H' := Aside0.mk H
                                                  clear H
                                                  have hnb84 := NB317_309.out
                                                  have hnc84 := NB309_317.out
                                                  have hnb85 := NB317_310.out
                                                  have hnc85 := NB310_317.out
                                                  have hcz86_0 : wc.cell? ⟨gb317, 0, none⟩ = some (.int .i64 ((rd_T58 l0_1 x12_3).f0)) := (blk_cell BK317.out 0).trans rfl
                                                  have hcz86_1 : wc.cell? ⟨gb317, 1, none⟩ = some (.int .i64 ((rd_T58 l0_1 x12_3).f1)) := (blk_cell BK317.out 1).trans rfl
                                                  have hcz86_2 : wc.cell? ⟨gb317, 2, none⟩ = some (.int .i64 ((rd_T58 l0_1 x12_3).f2.f0)) := (blk_cell BK317.out 2).trans rfl
                                                  have hcz86_3 : wc.cell? ⟨gb317, 3, none⟩ = some (.int .i64 ((rd_T58 l0_1 x12_3).f2.f1)) := (blk_cell BK317.out 3).trans rfl
                                                  have hfz86_0 := blk_frozen BK317.out 0
                                                  have hfz86_1 := blk_frozen BK317.out 1
                                                  have hfz86_2 := blk_frozen BK317.out 2
                                                  have hfz86_3 := blk_frozen BK317.out 3
                                                  try go_wp2
                                                  have n0_ := Aside0.mk (Kd.R_drew HO_9.out)
                                                  have n1_ := Aside0.mk (blk_drew BK309.out)
                                                  have n2_ := Aside0.mk (blk_drew BK310.out)
                                                  have n3_ := Aside0.mk (blk_drew BK317.out)
                                                  have n4_ := Aside0.mk (below_drew1 HB.out)
                                                  clear HO_9
                                                  clear BK309
                                                  clear BK310
                                                  clear BK317
                                                  clear HB
                                                  have HO_9 := n0_
                                                  have BK309 := n1_
                                                  have BK310 := n2_
                                                  have BK317 := n3_
                                                  have HB := n4_
                                                  clear n0_ n1_ n2_ n3_ n4_
                                                  have p323 : 0 ≤ (((rd_T58 l0_1 x12_3).f1) : Int) := of_decide_eq_true (by first | (with_reducible assumption) | assumption)
                                                  have q323 : ((rd_T58 l0_1 x12_3).f1) < (x9_3.length : Int) := of_decide_eq_true (by first | (with_reducible assumption) | assumption)
                                                  obtain ⟨ad323, e323, hx323_0⟩ := Kd.at_int (Kd.R_reads' HO_9.out).2.2 ((rd_T58 l0_1 x12_3).f1) p323 q323
                                                  obtain rfl : (⟨go21, 0, none⟩ : Addr) = ad323 := (by injection e323)
                                                  (first | simp only [add_plain] at hx323_0 | simp only [add_at] at hx323_0 | simp only [Addr.add, Nat.zero_add] at hx323_0 | skip)
                                                  replace p323 := eq_true p323
                                                  replace q323 := eq_true q323
                                                  have p83 : 0 ≤ (((rd_T58 l0_1 x12_3).f1) : Int) := of_decide_eq_true (by first | (with_reducible assumption) | assumption)
                                                  have q83 : (((rd_T58 l0_1 x12_3).f1) : Int) < ((x9_3.length : Int) : Int) := of_decide_eq_true (by first | (with_reducible assumption) | assumption)
                                                  obtain ⟨hx83_0, hf83_0⟩ := Kd.R_celln 0 HO_9.out (((rd_T58 l0_1 x12_3).f1) : Int) p83 q83
                                                  replace p83 := eq_true p83
                                                  replace q83 := eq_true q83
                                                  have HP88 := Kd.R_putn HO_9.out (((rd_T58 l0_1 x12_3).f1) : Int) ji82
                                                  rw [← Ny324.out] at HP88
                                                  have HQ88 := Aside0.mk HP88
                                                  clear HP88
                                                  refine start_ (n := 16) (S := fun w' => w'.cell? ⟨gb317, 0, none⟩ = some (.int .i64 ((rd_T58 l0_1 x12_3).f0)) ∧ w'.cell? ⟨gb317, 1, none⟩ = some (.int .i64 ((rd_T58 l0_1 x12_3).f1)) ∧ w'.cell? ⟨gb317, 2, none⟩ = some (.int .i64 ((rd_T58 l0_1 x12_3).f2.f0)) ∧ w'.cell? ⟨gb317, 3, none⟩ = some (.int .i64 ((rd_T58 l0_1 x12_3).f2.f1)) ∧ w'.cell? ⟨go21, (((rd_T58 l0_1 x12_3).f1)).toNat, none⟩ = some (.int .i64 (rd x9_3 ((rd_T58 l0_1 x12_3).f1)))) (ds := [15]) #[false, false, false, false, false, false, false, false, false, false, false, false, false, false, false, false] (by kernel_rfl) rfl rfl ⟨(blk_cell BK317.out 0).trans rfl, (blk_cell BK317.out 1).trans rfl, (blk_cell BK317.out 2).trans rfl, (blk_cell BK317.out 3).trans rfl, hx323_0⟩ (fun hHeld => ?_); refine with_tabW forecourtref05_arrivals.tab19 forecourtref05_arrivals.bits19 (fun HT_ HW_ => ?_)
                                                  generalize wc.drew = w87 at HO_9 BK309 BK310 BK317 HB HQ88 hf83_0 hx323_0 hx83_0 hHeld ⊢
                                                  refine pure_ (i := 0) (N := some 90) (v := ?_) (a' := ?_) #[true, false, false, false, false, false, false, false, false, false, false, false, false, false, false, false] rfl rfl (any_of HT_.out (by kernel_rfl)) (fun _ _ _ h => h) (Or.inl ⟨by rfl, ?_⟩) ?_ ?_
                                                  rotate_left
                                                  · intro w'
                                                    go_simp
                                                    with_reducible rfl
                                                  rotate_left
                                                  · simp only [Act.put, List.setIfInBounds_toArray, List.set_cons_zero, List.set_cons_succ, i64_w, i32_w]
                                                    rfl
                                                  refine pure_ (i := 1) (N := some 91) (v := ?_) (a' := ?_) #[true, true, false, false, false, false, false, false, false, false, false, false, false, false, false, false] rfl rfl (any_of HT_.out (by kernel_rfl)) (fun _ _ _ h => h) (Or.inl ⟨by rfl, ?_⟩) ?_ ?_
                                                  rotate_left
                                                  · intro w'
                                                    go_simp
                                                    with_reducible rfl
                                                  rotate_left
                                                  · simp only [Act.put, List.setIfInBounds_toArray, List.set_cons_zero, List.set_cons_succ, i64_w, i32_w]
                                                    rfl
                                                  refine pure_ (i := 3) (N := some 93) (v := ?_) (a' := ?_) #[true, true, false, true, false, false, false, false, false, false, false, false, false, false, false, false] rfl rfl (any_of HT_.out (by kernel_rfl)) (fun _ _ _ h => h) (Or.inl ⟨by rfl, ?_⟩) ?_ ?_
                                                  rotate_left
                                                  · intro w'
                                                    go_simp
                                                    with_reducible rfl
                                                  rotate_left
                                                  · simp only [Act.put, List.setIfInBounds_toArray, List.set_cons_zero, List.set_cons_succ, i64_w, i32_w]
                                                    rfl
                                                  refine pure_ (i := 4) (N := some 94) (v := ?_) (a' := ?_) #[true, true, false, true, true, false, false, false, false, false, false, false, false, false, false, false] rfl rfl (any_of HT_.out (by kernel_rfl)) (fun _ _ _ h => h) (Or.inl ⟨by rfl, ?_⟩) ?_ ?_
                                                  rotate_left
                                                  · intro w'
                                                    go_simp
                                                    with_reducible rfl
                                                  rotate_left
                                                  · simp only [Act.put, List.setIfInBounds_toArray, List.set_cons_zero, List.set_cons_succ, i64_w, i32_w]
                                                    rfl
                                                  refine pure_ (i := 8) (N := some 98) (v := ?_) (a' := ?_) #[true, true, false, true, true, false, false, false, true, false, false, false, false, false, false, false] rfl rfl (any_of HT_.out (by kernel_rfl)) (fun _ _ _ h => h) (Or.inl ⟨by rfl, ?_⟩) ?_ ?_
                                                  rotate_left
                                                  · intro w'
                                                    go_simp
                                                    with_reducible rfl
                                                  rotate_left
                                                  · simp only [Act.put, List.setIfInBounds_toArray, List.set_cons_zero, List.set_cons_succ, i64_w, i32_w]
                                                    rfl
                                                  refine pure_ (i := 9) (N := some 99) (v := ?_) (a' := ?_) #[true, true, false, true, true, false, false, false, true, true, false, false, false, false, false, false] rfl rfl (any_of HT_.out (by kernel_rfl)) (fun _ _ _ h => h) (Or.inl ⟨by rfl, ?_⟩) ?_ ?_
                                                  rotate_left
                                                  · intro w'
                                                    go_simp
                                                    with_reducible rfl
                                                  rotate_left
                                                  · simp only [Act.put, List.setIfInBounds_toArray, List.set_cons_zero, List.set_cons_succ, i64_w, i32_w]
                                                    rfl
                                                  refine pure_ (i := 10) (N := some 100) (v := ?_) (a' := ?_) #[true, true, false, true, true, false, false, false, true, true, true, false, false, false, false, false] rfl rfl (any_of HT_.out (by kernel_rfl)) (fun _ _ _ h => h) (Or.inl ⟨by rfl, ?_⟩) ?_ ?_
                                                  rotate_left
                                                  · intro w'
                                                    go_simp
                                                    with_reducible rfl
                                                  rotate_left
                                                  · simp only [Act.put, List.setIfInBounds_toArray, List.set_cons_zero, List.set_cons_succ, i64_w, i32_w]
                                                    rfl
                                                  refine take_ (i := 2) (N := some 92) (v := ?_) (a' := ?_) #[true, true, true, true, true, false, false, false, true, true, true, false, false, false, false, false] rfl rfl (take_ofW HT_.out HW_.out (by kernel_rfl)) (fun _ _ _ h => h) (Or.inl ⟨by rfl, ?_⟩) hHeld ?_ ?_
                                                  rotate_left
                                                  · rintro w' ⟨s0, s1, s2, s3, s4⟩
                                                    go_simp
                                                    with_reducible rfl
                                                  rotate_left
                                                  · simp only [Act.put, List.setIfInBounds_toArray, List.set_cons_zero, List.set_cons_succ, i64_w, i32_w]
                                                    rfl
                                                  refine take_ (i := 5) (N := some 95) (v := ?_) (a' := ?_) #[true, true, true, true, true, true, false, false, true, true, true, false, false, false, false, false] rfl rfl (take_ofW HT_.out HW_.out (by kernel_rfl)) (fun _ _ _ h => h) (Or.inl ⟨by rfl, ?_⟩) hHeld ?_ ?_
                                                  rotate_left
                                                  · rintro w' ⟨s0, s1, s2, s3, s4⟩
                                                    go_simp
                                                    with_reducible rfl
                                                  rotate_left
                                                  · simp only [Act.put, List.setIfInBounds_toArray, List.set_cons_zero, List.set_cons_succ, i64_w, i32_w]
                                                    rfl
                                                  refine pure_ (i := 6) (N := some 96) (v := ?_) (a' := ?_) #[true, true, true, true, true, true, true, false, true, true, true, false, false, false, false, false] rfl rfl (any_of HT_.out (by kernel_rfl)) (fun _ _ _ h => h) (Or.inl ⟨by rfl, ?_⟩) ?_ ?_
                                                  rotate_left
                                                  · intro w'
                                                    go_simp
                                                    with_reducible rfl
                                                  rotate_left
                                                  · simp only [Act.put, List.setIfInBounds_toArray, List.set_cons_zero, List.set_cons_succ, i64_w, i32_w]
                                                    rfl
                                                  refine take_ (i := 7) (N := some 97) (v := ?_) (a' := ?_) #[true, true, true, true, true, true, true, true, true, true, true, false, false, false, false, false] rfl rfl (take_ofW HT_.out HW_.out (by kernel_rfl)) (fun _ _ _ h => h) (Or.inl ⟨by rfl, ?_⟩) hHeld ?_ ?_
                                                  rotate_left
                                                  · rintro w' ⟨s0, s1, s2, s3, s4⟩
                                                    go_simp
                                                    with_reducible rfl
                                                  rotate_left
                                                  · simp only [Act.put, List.setIfInBounds_toArray, List.set_cons_zero, List.set_cons_succ, i64_w, i32_w]
                                                    rfl
                                                  refine take_ (i := 11) (N := some 101) (v := ?_) (a' := ?_) #[true, true, true, true, true, true, true, true, true, true, true, true, false, false, false, false] rfl rfl (take_ofW HT_.out HW_.out (by kernel_rfl)) (fun _ _ _ h => h) (Or.inl ⟨by rfl, ?_⟩) hHeld ?_ ?_
                                                  rotate_left
                                                  · rintro w' ⟨s0, s1, s2, s3, s4⟩
                                                    go_simp
                                                    with_reducible rfl
                                                  rotate_left
                                                  · simp only [Act.put, List.setIfInBounds_toArray, List.set_cons_zero, List.set_cons_succ, i64_w, i32_w]
                                                    rfl
                                                  refine pure_ (i := 12) (N := some 102) (v := ?_) (a' := ?_) #[true, true, true, true, true, true, true, true, true, true, true, true, true, false, false, false] rfl rfl (any_of HT_.out (by kernel_rfl)) (fun _ _ _ h => h) (Or.inl ⟨by rfl, ?_⟩) ?_ ?_
                                                  rotate_left
                                                  · intro w'
                                                    go_simp
                                                    with_reducible rfl
                                                  rotate_left
                                                  · simp only [Act.put, List.setIfInBounds_toArray, List.set_cons_zero, List.set_cons_succ, i64_w, i32_w]
                                                    rfl
                                                  refine pure_ (i := 13) (N := some 103) (v := ?_) (a' := ?_) #[true, true, true, true, true, true, true, true, true, true, true, true, true, true, false, false] rfl rfl (any_of HT_.out (by kernel_rfl)) (fun _ _ _ h => h) (Or.inl ⟨by rfl, ?_⟩) ?_ ?_
                                                  rotate_left
                                                  · intro w'
                                                    go_simp
                                                    with_reducible rfl
                                                  rotate_left
                                                  · simp only [Act.put, List.setIfInBounds_toArray, List.set_cons_zero, List.set_cons_succ, i64_w, i32_w]
                                                    rfl
                                                  refine pure_ (i := 14) (N := some 104) (v := ?_) (a' := ?_) #[true, true, true, true, true, true, true, true, true, true, true, true, true, true, true, false] rfl rfl (any_of HT_.out (by kernel_rfl)) (fun _ _ _ h => h) (Or.inl ⟨by rfl, ?_⟩) ?_ ?_
                                                  rotate_left
                                                  · intro w'
                                                    go_simp
                                                    with_reducible rfl
                                                  rotate_left
                                                  · simp only [Act.put, List.setIfInBounds_toArray, List.set_cons_zero, List.set_cons_succ, i64_w, i32_w]
                                                    rfl
                                                  refine last_ (i := 15) (N := none) #[true, true, true, true, true, true, true, true, true, true, true, true, true, true, true, true] rfl rfl (one_of HT_.out (by kernel_rfl)) (by decide) (fun K hK => ?_)
                                                  refine skip_ (w1 := ?_) (by rfl) rfl ?_ ?_
                                                  rotate_left
                                                  · go_simp
                                                    rfl
                                                  refine hK.out _ _ ?_
                                                  clear hK K
                                                  refine done_ (done_of HT_.out (by kernel_rfl)) ?_
                                                  try go_wp2
                                                  (try simp only [← hl9_3])
                                                  go_roundg kj40
                                                  case measure => have := HK1.out; have := HK2.out; have := HK3.out; have := HJ40.out; omega
                                                  case rel => exact ⟨(y324), (wrap64 (x12_3 + 1)), (by first | rfl | (simp; done) | (simp [*]; done)), H', ⟨by have := HK1.out; have := HK2.out; have := HK3.out; have := HJ40.out; omega⟩, ⟨by (try simp only [hl9_2]); (try simp only [hl9_3]); (with_reducible repeat (first | apply Kd.R_alloc | apply Kd.R_drewN | apply Kd.R_drew)); exact HQ88.out⟩, ⟨by (try simp only [hl9_2]); (try simp only [hl9_3]); (with_reducible repeat (first | refine blk_drewN ?_ _ | refine blk_drew ?_ | refine blk_alloc ?_ _)); refine blk_far ?_ (by have h_ := Kd.R_ne HO_9.out BK309.out (by decide); intro e_; exact h_ (by rw [e_]; rfl)) _; (with_reducible repeat (first | refine blk_drewN ?_ _ | refine blk_drew ?_ | refine blk_alloc ?_ _)); exact BK309.out⟩, ⟨by (try simp only [hl9_2]); (try simp only [hl9_3]); (with_reducible repeat (first | refine blk_drewN ?_ _ | refine blk_drew ?_ | refine blk_alloc ?_ _)); refine blk_far ?_ (by have h_ := Kd.R_ne HO_9.out BK310.out (by decide); intro e_; exact h_ (by rw [e_]; rfl)) _; (with_reducible repeat (first | refine blk_drewN ?_ _ | refine blk_drew ?_ | refine blk_alloc ?_ _)); exact BK310.out⟩, ⟨by repeat (first | (with_reducible first | exact HB.out | apply below_alloc | apply pw_below_drewN | apply below_drew1 | refine below_set ?_ GB21.out | refine below_set ?_ GE309.out | refine below_set ?_ GE310.out | refine below_set ?_ GE317.out) | exact HB.out)⟩⟩
                                                · rw [if_neg c80] at H
                                                  exact absurd H (by simp)
                                              · rw [if_neg c79] at H
                                                exact absurd H (by simp)
                                            · rw [if_neg c78] at H
                                              have c78b0 : decide ((rd x9_3 ((rd_T58 l0_1 x12_3).f0)) ≤ ((rd_T58 l0_1 x12_3).f2.f1)) = false := decide_eq_false c78
                                              clear c78
                                              have H' := Aside0.mk H
                                              clear H
                                              have hnb89 := NB317_309.out
                                              have hnc89 := NB309_317.out
                                              have hnb90 := NB317_310.out
                                              have hnc90 := NB310_317.out
                                              have hcz91_0 : wc.cell? ⟨gb317, 0, none⟩ = some (.int .i64 ((rd_T58 l0_1 x12_3).f0)) := (blk_cell BK317.out 0).trans rfl
                                              have hcz91_1 : wc.cell? ⟨gb317, 1, none⟩ = some (.int .i64 ((rd_T58 l0_1 x12_3).f1)) := (blk_cell BK317.out 1).trans rfl
                                              have hcz91_2 : wc.cell? ⟨gb317, 2, none⟩ = some (.int .i64 ((rd_T58 l0_1 x12_3).f2.f0)) := (blk_cell BK317.out 2).trans rfl
                                              have hcz91_3 : wc.cell? ⟨gb317, 3, none⟩ = some (.int .i64 ((rd_T58 l0_1 x12_3).f2.f1)) := (blk_cell BK317.out 3).trans rfl
                                              have hfz91_0 := blk_frozen BK317.out 0
                                              have hfz91_1 := blk_frozen BK317.out 1
                                              have hfz91_2 := blk_frozen BK317.out 2
                                              have hfz91_3 := blk_frozen BK317.out 3
                                              go_wp2
                                              (try simp only [← hl9_3])
                                              go_roundg kj40
                                              case measure => have := HK1.out; have := HK2.out; have := HK3.out; have := HJ40.out; omega
                                              case rel => exact ⟨(x9_3), (wrap64 (x12_3 + 1)), (by first | rfl | (simp; done) | (simp [*]; done)), H', ⟨by have := HK1.out; have := HK2.out; have := HK3.out; have := HJ40.out; omega⟩, ⟨by (try simp only [hl9_2]); (try simp only [hl9_3]); (with_reducible repeat (first | apply Kd.R_alloc | apply Kd.R_drewN | apply Kd.R_drew)); exact HO_9.out⟩, ⟨by (try simp only [hl9_2]); (try simp only [hl9_3]); (with_reducible repeat (first | refine blk_drewN ?_ _ | refine blk_drew ?_ | refine blk_alloc ?_ _)); exact BK309.out⟩, ⟨by (try simp only [hl9_2]); (try simp only [hl9_3]); (with_reducible repeat (first | refine blk_drewN ?_ _ | refine blk_drew ?_ | refine blk_alloc ?_ _)); exact BK310.out⟩, ⟨by repeat (first | (with_reducible first | exact HB.out | apply below_alloc | apply pw_below_drewN | apply below_drew1 | refine below_set ?_ GE309.out | refine below_set ?_ GE310.out | refine below_set ?_ GE317.out) | exact HB.out)⟩⟩
                                  · rw [if_neg c40] at H
                                    exact absurd H (by simp)
                                · rw [if_neg c39] at H
                                  exact absurd H (by simp)
                            · rw [if_neg c31] at H
                              exact absurd H (by simp)
                          · rw [if_neg c30] at H
                            have c30b0 : decide (x12_3 < (l0_1.length : Int)) = false := decide_eq_false c30
                            clear c30
                            have H' := Aside0.mk H
                            clear H
                            have hnb92 := NB309_310.out
                            have hnc92 := NB310_309.out
                            have hcz93_0 : wr.cell? ⟨gb309, 0, none⟩ = some (.int .i64 a0_0) := (blk_cell BK309.out 0).trans rfl
                            have hcz93_1 : wr.cell? ⟨gb309, 1, none⟩ = some (.slice A0_1 l0_1.length c0_1) := (blk_cell BK309.out 1).trans rfl
                            have hfz93_0 := blk_frozen BK309.out 0
                            have hfz93_1 := blk_frozen BK309.out 1
                            go_wp2
                            (try simp only [← hl9_2, ← hl9_3])
                            go_roundg k3
                            case measure => have := HK1.out; have := HK2.out; have := HK3.out; omega
                            case rel => exact ⟨(x9_3), (wrap64 (x11_2 + 1)), (by first | rfl | (simp; done) | (simp [*]; done)), H', ⟨by have := HK1.out; have := HK2.out; have := HK3.out; omega⟩, ⟨by (try simp only [hl9_2]); (try simp only [hl9_3]); (with_reducible repeat (first | apply Kd.R_alloc | apply Kd.R_drewN | apply Kd.R_drew)); exact HO_9.out⟩, ⟨by (try simp only [hl9_2]); (try simp only [hl9_3]); (with_reducible repeat (first | refine blk_drewN ?_ _ | refine blk_drew ?_ | refine blk_alloc ?_ _)); exact BK309.out⟩, ⟨by (try simp only [hl9_2]); (try simp only [hl9_3]); (with_reducible repeat (first | refine blk_drewN ?_ _ | refine blk_drew ?_ | refine blk_alloc ?_ _)); exact BK310.out⟩, ⟨by repeat (first | (with_reducible first | exact HB.out | apply below_alloc | apply pw_below_drewN | apply below_drew1 | refine below_set ?_ GE309.out | refine below_set ?_ GE310.out) | exact HB.out)⟩⟩
                    · rw [if_neg c27] at H
                      have c27b0 : decide (x11_2 < a0_0) = false := decide_eq_false c27
                      clear c27
                      obtain rfl := Option.some.inj H
                      have hnb94 := NB309_310.out
                      have hnc94 := NB310_309.out
                      have hcz95_0 : wr.cell? ⟨gb309, 0, none⟩ = some (.int .i64 a0_0) := (blk_cell BK309.out 0).trans rfl
                      have hcz95_1 : wr.cell? ⟨gb309, 1, none⟩ = some (.slice A0_1 l0_1.length c0_1) := (blk_cell BK309.out 1).trans rfl
                      have hfz95_0 := blk_frozen BK309.out 0
                      have hfz95_1 := blk_frozen BK309.out 1
                      go_wp2
                      go_ret
                      exact ⟨_, by first | rfl | (simp [errW_none, errW_some] <;> rfl) | (simp [*, errW_none, errW_some] <;> rfl), by (with_reducible repeat (first | apply Kd.R_alloc | apply Kd.R_drewN | apply Kd.R_drew)); exact HO_9.out, by repeat (first | (with_reducible first | exact HB.out | apply below_alloc | apply pw_below_drewN | apply below_drew1 | refine below_set ?_ GE309.out | refine below_set ?_ GE310.out) | exact HB.out)⟩
              · rw [if_neg c20] at H
                exact absurd H (by simp)
            · rw [if_neg c19] at H
              exact absurd H (by simp)
    · rw [if_neg c6] at H
      exact absurd H (by simp)
  · rw [if_neg c5] at H
    exact absurd H (by simp)

end Go.Proofs.Ytfhmepdbbhcncaa.P
