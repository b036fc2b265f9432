-- PRINTED by print.py (a twelfth state) out of the translation. Not trusted: Lean checks it.
import Derived.Test.YtfhmepdbbhcncaaPx0
namespace Go.Proofs.Ytfhmepdbbhcncaa.P
open Go.RowKit Go.Proofs.YtfhmepdbbhcncaaW.PrintWords Go.Proofs.YtfhmepdbbhcncaaW.PrintLast
set_option linter.unusedVariables false
set_option linter.unusedSimpArgs false

/-! ### forecourtlaw05_Comes: function 40 -/
mutual
def forecourtlaw05_Comes.l0 : Nat → List Int → List Int → Int → Int → List (S58) → Int → Int → Option (List Int)
  | 0, _, _, _, _, _, _, _ => none
  | k + 1, x2, x7, x8, x482000, x482001, x483000, x483001 => if x8 < (x7.length : Int) then (if 0 ≤ x8 then (forecourtlaw05_Comes.l0 k x2 (x7.set (x8 : Int).toNat 1048576) (wrap64 (x8 + 1)) x482000 x482001 x483000 x483001) else (none)) else (if 0 ≤ x483000 then (if x483000 < (x7.length : Int) then (forecourtlaw05_Comes.l1 k x2 (x7.set (x483000 : Int).toNat x483001) 0 x482000 x482001) else (none)) else (none))
def forecourtlaw05_Comes.l1 : Nat → List Int → List Int → Int → Int → List (S58) → Option (List Int)
  | 0, _, _, _, _, _ => none
  | k + 1, x2, x7, x9, x482000, x482001 => if x9 < x482000 then (forecourtlaw05_Comes.l2 k x2 x7 x9 0 x482000 x482001) else (some x7)
def forecourtlaw05_Comes.l2 : Nat → List Int → List Int → Int → Int → Int → List (S58) → Option (List Int)
  | 0, _, _, _, _, _, _ => none
  | k + 1, x2, x7, x9, x10, x482000, x482001 => if x10 < (x482001.length : Int) then (forecourtlaw05_Comes.j3 k x2 x7 x9 x10 (decide (x10 < (x2.length : Int))) x482000 x482001) else (forecourtlaw05_Comes.j3 k x2 x7 x9 x10 false x482000 x482001)
def forecourtlaw05_Comes.j3 : Nat → List Int → List Int → Int → Int → Bool → Int → List (S58) → Option (List Int)
  | 0, _, _, _, _, _, _, _ => none
  | k + 1, x2, x7, x9, x10, x45, x482000, x482001 => if x45 = true then (if 0 ≤ x10 then (if x10 < (x2.length : Int) then (if x10 < (x482001.length : Int) then (if 0 ≤ ((rd_T58 x482001 x10).f0) then (if ((rd_T58 x482001 x10).f0) < (x7.length : Int) then (if (rd x2 x10) ≥ (rd x7 ((rd_T58 x482001 x10).f0)) then (if 0 ≤ ((rd_T58 x482001 x10).f1) then (if ((rd_T58 x482001 x10).f1) < (x7.length : Int) then (forecourtlaw05_Comes.l2 k x2 (x7.set (((rd_T58 x482001 x10).f1) : Int).toNat (mn (rd x7 ((rd_T58 x482001 x10).f1)) (rd x2 x10))) x9 (wrap64 (x10 + 1)) x482000 x482001) else (none)) else (none)) else (forecourtlaw05_Comes.l2 k x2 x7 x9 (wrap64 (x10 + 1)) x482000 x482001)) else (none)) else (none)) else (none)) else (none)) else (none)) else (forecourtlaw05_Comes.l1 k x2 x7 (wrap64 (x9 + 1)) x482000 x482001)
end
def forecourtlaw05_Comes.f (k : Nat) (a0_0 : Int) (l0_1 : List (S58)) (a1_0 : Int) (a1_1 : Int) (l2 : List Int) : Option (List Int) := if 0 ≤ a0_0 then (if (a0_0 : Int).toNat ≤ 35184372088832 then (forecourtlaw05_Comes.l0 k l2 (List.replicate (a0_0 : Int).toNat 0) 0 a0_0 l0_1 a1_0 a1_1) else (none)) else (none)
theorem forecourtlaw05_Comes.mono_l : ∀ k, (∀ y0 y1 y2 y3 y4 y5 y6, LeO (forecourtlaw05_Comes.l0 k y0 y1 y2 y3 y4 y5 y6) (forecourtlaw05_Comes.l0 (k + 1) y0 y1 y2 y3 y4 y5 y6)) ∧ (∀ y0 y1 y2 y3 y4, LeO (forecourtlaw05_Comes.l1 k y0 y1 y2 y3 y4) (forecourtlaw05_Comes.l1 (k + 1) y0 y1 y2 y3 y4)) ∧ (∀ y0 y1 y2 y3 y4 y5, LeO (forecourtlaw05_Comes.l2 k y0 y1 y2 y3 y4 y5) (forecourtlaw05_Comes.l2 (k + 1) y0 y1 y2 y3 y4 y5)) ∧ (∀ y0 y1 y2 y3 y4 y5 y6, LeO (forecourtlaw05_Comes.j3 k y0 y1 y2 y3 y4 y5 y6) (forecourtlaw05_Comes.j3 (k + 1) y0 y1 y2 y3 y4 y5 y6))
  | 0 => ⟨fun _ _ _ _ _ _ _ r h => by simp [forecourtlaw05_Comes.l0] at h, fun _ _ _ _ _ r h => by simp [forecourtlaw05_Comes.l1] at h, fun _ _ _ _ _ _ r h => by simp [forecourtlaw05_Comes.l2] at h, fun _ _ _ _ _ _ _ r h => by simp [forecourtlaw05_Comes.j3] at h⟩
  | k + 1 => by
    obtain ⟨ih0, ih1, ih2, ih3⟩ := forecourtlaw05_Comes.mono_l k
    refine ⟨?_, ?_, ?_, ?_⟩
    · intro y0 y1 y2 y3 y4 y5 y6
      unfold forecourtlaw05_Comes.l0
      repeat' first
      | (with_reducible exact ih0 _ _ _ _ _ _ _)
      | (with_reducible exact ih1 _ _ _ _ _)
      | (with_reducible exact ih2 _ _ _ _ _ _)
      | (with_reducible exact ih3 _ _ _ _ _ _ _)
      | (with_reducible exact LeO.refl _)
      | (with_reducible exact LeO.none _)
      | (with_reducible refine LeO.ite ?_ ?_)
      | (with_reducible refine LeO.bind ?_ (fun _ => ?_))
      | exact ih0 _ _ _ _ _ _ _
      | exact ih1 _ _ _ _ _
      | exact ih2 _ _ _ _ _ _
      | exact ih3 _ _ _ _ _ _ _
      | exact LeO.none _
      | refine LeO.ite ?_ ?_
      | refine LeO.bind ?_ (fun _ => ?_)
    · intro y0 y1 y2 y3 y4
      unfold forecourtlaw05_Comes.l1
      repeat' first
      | (with_reducible exact ih0 _ _ _ _ _ _ _)
      | (with_reducible exact ih1 _ _ _ _ _)
      | (with_reducible exact ih2 _ _ _ _ _ _)
      | (with_reducible exact ih3 _ _ _ _ _ _ _)
      | (with_reducible exact LeO.refl _)
      | (with_reducible exact LeO.none _)
      | (with_reducible refine LeO.ite ?_ ?_)
      | (with_reducible refine LeO.bind ?_ (fun _ => ?_))
      | exact ih0 _ _ _ _ _ _ _
      | exact ih1 _ _ _ _ _
      | exact ih2 _ _ _ _ _ _
      | exact ih3 _ _ _ _ _ _ _
      | exact LeO.none _
      | refine LeO.ite ?_ ?_
      | refine LeO.bind ?_ (fun _ => ?_)
    · intro y0 y1 y2 y3 y4 y5
      unfold forecourtlaw05_Comes.l2
      repeat' first
      | (with_reducible exact ih0 _ _ _ _ _ _ _)
      | (with_reducible exact ih1 _ _ _ _ _)
      | (with_reducible exact ih2 _ _ _ _ _ _)
      | (with_reducible exact ih3 _ _ _ _ _ _ _)
      | (with_reducible exact LeO.refl _)
      | (with_reducible exact LeO.none _)
      | (with_reducible refine LeO.ite ?_ ?_)
      | (with_reducible refine LeO.bind ?_ (fun _ => ?_))
      | exact ih0 _ _ _ _ _ _ _
      | exact ih1 _ _ _ _ _
      | exact ih2 _ _ _ _ _ _
      | exact ih3 _ _ _ _ _ _ _
      | exact LeO.none _
      | refine LeO.ite ?_ ?_
      | refine LeO.bind ?_ (fun _ => ?_)
    · intro y0 y1 y2 y3 y4 y5 y6
      unfold forecourtlaw05_Comes.j3
      repeat' first
      | (with_reducible exact ih0 _ _ _ _ _ _ _)
      | (with_reducible exact ih1 _ _ _ _ _)
      | (with_reducible exact ih2 _ _ _ _ _ _)
      | (with_reducible exact ih3 _ _ _ _ _ _ _)
      | (with_reducible exact LeO.refl _)
      | (with_reducible exact LeO.none _)
      | (with_reducible refine LeO.ite ?_ ?_)
      | (with_reducible refine LeO.bind ?_ (fun _ => ?_))
      | exact ih0 _ _ _ _ _ _ _
      | exact ih1 _ _ _ _ _
      | exact ih2 _ _ _ _ _ _
      | exact ih3 _ _ _ _ _ _ _
      | exact LeO.none _
      | refine LeO.ite ?_ ?_
      | refine LeO.bind ?_ (fun _ => ?_)
theorem forecourtlaw05_Comes.mono : ∀ a0 a1 a2 a3 a4 k, LeO (forecourtlaw05_Comes.f k a0 a1 a2 a3 a4) (forecourtlaw05_Comes.f (k + 1) a0 a1 a2 a3 a4) := by
 intro a0 a1 a2 a3 a4 k
 obtain ⟨ih0, ih1, ih2, ih3⟩ := forecourtlaw05_Comes.mono_l k
 unfold forecourtlaw05_Comes.f
 repeat' first
   | (with_reducible exact ih0 _ _ _ _ _ _ _)
   | (with_reducible exact ih1 _ _ _ _ _)
   | (with_reducible exact ih2 _ _ _ _ _ _)
   | (with_reducible exact ih3 _ _ _ _ _ _ _)
   | (with_reducible exact LeO.refl _)
   | (with_reducible exact LeO.none _)
   | (with_reducible refine LeO.ite ?_ ?_)
   | (with_reducible refine LeO.bind ?_ (fun _ => ?_))
   | exact ih0 _ _ _ _ _ _ _
   | exact ih1 _ _ _ _ _
   | exact ih2 _ _ _ _ _ _
   | exact ih3 _ _ _ _ _ _ _
   | exact LeO.none _
   | refine LeO.ite ?_ ?_
   | refine LeO.bind ?_ (fun _ => ?_)
def forecourtlaw05_Comes.T13 : Bool × List (List Nat × List Nat) := (true, [([], []), ([], []), ([0, 1], [0, 1]), ([2], [2]), ([], []), ([], []), ([5], [5]), ([], []), ([6, 7], [6, 7]), ([8], [8]), ([9], [9]), ([4, 10], [4, 10]), ([11], [11]), ([3, 12], [3, 12])])
def forecourtlaw05_Comes.B13 : List Nat := [0, 0, 3, 7, 0, 0, 32, 0, 224, 480, 992, 2032, 4080, 8191]
theorem forecourtlaw05_Comes.tab13 : rtab .any (opsOf Try.f40 13) = forecourtlaw05_Comes.T13 := by kernel_rfl
theorem forecourtlaw05_Comes.bits13 : waitsOk forecourtlaw05_Comes.T13.2 forecourtlaw05_Comes.B13 = true := by kernel_rfl
def forecourtlaw05_Comes.T14 : Bool × List (List Nat × List Nat) := (true, [([], []), ([], []), ([1], [1]), ([], []), ([2, 3], [2, 3]), ([4], [4]), ([5], [5]), ([], []), ([], []), ([8], [8]), ([], []), ([9, 10], [9, 10]), ([11], [11]), ([12], [12]), ([7, 13], [7, 13]), ([14], [14]), ([], []), ([], []), ([16, 17], [16, 17]), ([18], [18]), ([15, 19], [15, 19]), ([0, 6, 0, 1, 2, 3, 4, 5, 6, 7, 8, 9, 10, 11, 12, 13, 14, 15, 16, 17, 18, 19, 20], [0, 6]), ([21, 20, 0, 1, 2, 3, 4, 5, 6, 7, 8, 9, 10, 11, 12, 13, 14, 15, 16, 17, 18, 19, 20], [20, 21])])
def forecourtlaw05_Comes.B14 : List Nat := [0, 0, 2, 0, 14, 30, 62, 0, 0, 256, 0, 1792, 3840, 7936, 16256, 32640, 0, 0, 196608, 458752, 1048448, 2097151, 4194303]
theorem forecourtlaw05_Comes.tab14 : rtab .any (opsOf Try.f40 14) = forecourtlaw05_Comes.T14 := by kernel_rfl
theorem forecourtlaw05_Comes.bits14 : waitsOk forecourtlaw05_Comes.T14.2 forecourtlaw05_Comes.B14 = true := by kernel_rfl
set_option maxHeartbeats 8000000 in
set_option maxRecDepth 100000 in
theorem forecourtlaw05_Comes.calls (k : Nat) (a0_0 : Int) (A0_1 : Option Addr) (c0_1 : Nat) (l0_1 : List (S58)) (a1_0 : Int) (a1_1 : Int) (A2 : Option Addr) (c2 : Nat) (l2 : List Int) (r : List Int) (w : World) (hr0_1 : Kd.C k58 w A0_1 l0_1.length l0_1) (hc0_1 : l0_1.length ≤ c0_1) (hr2 : Kd.C (Kd.int .i64) w A2 l2.length l2) (hc2 : l2.length ≤ c2) (h : forecourtlaw05_Comes.f k a0_0 l0_1 a1_0 a1_1 l2 = some r) :
    Calls Try.prog 40 #[.agg #[.int .i64 a0_0, .slice A0_1 l0_1.length c0_1], .agg #[.int .i64 a1_0, .int .i64 a1_1], .slice A2 l2.length c2] w fun e w' => ∃ v0_ : Value, e = .returned (v0_) ∧ Kd.R (Kd.int .i64) 2 w' w.heap.size (fun _ => True) v0_ r ∧ Below w.heap.size w w':=by
 have hu24 := Try.underlying24
 have hu26 := Try.underlying26
 have HR0_1 := Aside0.mk hr0_1
 have HC0_1 := Aside0.mk hc0_1
 clear hr0_1 hc0_1
 have HR2 := Aside0.mk hr2
 have HC2 := Aside0.mk hc2
 clear hr2 hc2
 have HB := Aside0.mk (Below.refl w.heap.size w)
 have H : (if 0 ≤ a0_0 then (if (a0_0 : Int).toNat ≤ 35184372088832 then (forecourtlaw05_Comes.l0 k l2 (List.replicate (a0_0 : Int).toNat 0) 0 a0_0 l0_1 a1_0 a1_1) else (none)) else (none)) = some r:=h
 clear h
 by_cases c4 : 0 ≤ a0_0
 ·rw [if_pos c4] at H
  have c4b0 := eq_true c4
  have c4b1 : decide (0 ≤ a0_0) = true := decide_eq_true c4
  clear c4
  by_cases c5 : (a0_0 : Int).toNat ≤ 35184372088832
  ·rw [if_pos c5] at H
   have c5b0 := eq_true c5
   have c5b1 : decide ((a0_0 : Int).toNat ≤ 35184372088832) = true := decide_eq_true c5
   clear c5
   obtain ⟨y483, hy483⟩ : ∃ y_ : List Int, y_ = (List.replicate (a0_0 : Int).toNat 0) := ⟨_, rfl⟩
   replace H : (forecourtlaw05_Comes.l0 k l2 y483 0 a0_0 l0_1 a1_0 a1_1) = some r:=by first|(rw [hy483];with_reducible exact H)|(have H2_:=(Option.bind_some _ _).symm.trans H;rw [hy483];with_reducible exact H2_)|(have H2_:=(Option.bind_some _ _).symm.trans H;with_reducible exact H2_)|with_reducible exact H|(rw [hy483];exact H)|exact H
   have Ny483 := Aside0.mk hy483
   clear hy483
   have H' := Aside0.mk H
   clear H
   go_enter Try.func40, Try.ntmps40
   go_wp2_with (first|((with_reducible refine gate_dst (N:=3) rfl ?_);refine box_event ?hg (N:=3) ?hd (cs:=#[.int .i64 a0_0, .slice A0_1 l0_1.length c0_1]) (t:=24) ?hr ?_;(case hd => rfl);(case hg => rfl);(case hr => first|(go_simp;done)|(go_simp;rfl));intro gb481 hg w6 hbox hb;have n0_:=Aside0.mk (below_step (by repeat (first|(with_reducible first|exact HB.out|apply below_alloc|apply pw_below_drewN|apply below_drew1)|exact HB.out)) hb);have n1_:=Aside0.mk (hbox);have n2_:=Aside0.mk ((by rw [hg];exact (below_size (by repeat (first|(with_reducible first|exact HB.out|apply below_alloc|apply pw_below_drewN|apply below_drew1)|exact HB.out))) : w.heap.size ≤ gb481));have n3_:=Aside0.mk ((by rw [hg];exact (below_size (by repeat (first|(with_reducible first|exact HB.out|apply below_alloc|apply pw_below_drewN|apply below_drew1)|exact HB.out))) : w.heap.size ≤ gb481));clear HB;have HB:=n0_;have BK481:=n1_;have GW481:=n2_;have GE481:=n3_;clear n0_ n1_ n2_ n3_;clear hb hbox hg)|((with_reducible refine gate_dst (N:=4) rfl ?_);refine box_event ?hg (N:=4) ?hd (cs:=#[.int .i64 a1_0, .int .i64 a1_1]) (t:=26) ?hr ?_;(case hd => rfl);(case hg => rfl);(case hr => first|(go_simp;done)|(go_simp;rfl));intro gb482 hg w7 hbox hb;have n0_:=Aside0.mk (blk_below (g:=gb481) (o:=.cells #[.int .i64 a0_0, .slice A0_1 l0_1.length c0_1] 24 (0, 0)) (by (with_reducible repeat (first|refine blk_drewN ?_ _|refine blk_drew ?_|refine blk_alloc ?_ _));exact BK481.out) hb);have n1_:=Aside0.mk (below_step (by repeat (first|(with_reducible first|exact HB.out|apply below_alloc|apply pw_below_drewN|apply below_drew1|refine below_set ?_ GE481.out)|exact HB.out)) hb);have n2_:=Aside0.mk (hbox);have n3_:=Aside0.mk ((by rw [hg];exact (below_size (by repeat (first|(with_reducible first|exact HB.out|apply below_alloc|apply pw_below_drewN|apply below_drew1|refine below_set ?_ GE481.out)|exact HB.out))) : w.heap.size ≤ gb482));have n4_:=Aside0.mk ((by rw [hg];exact (below_size (by repeat (first|(with_reducible first|exact HB.out|apply below_alloc|apply pw_below_drewN|apply below_drew1|refine below_set ?_ GE481.out)|exact HB.out))) : w.heap.size ≤ gb482));have n5_:=Aside0.mk ((by rw [hg];exact Nat.ne_of_lt (blk_lt (g:=gb481) (o:=.cells #[.int .i64 a0_0, .slice A0_1 l0_1.length c0_1] 24 (0, 0)) (by (with_reducible repeat (first|refine blk_drewN ?_ _|refine blk_drew ?_|refine blk_alloc ?_ _));exact BK481.out)) : gb481 ≠ gb482));have n6_:=Aside0.mk ((by rw [hg];exact Nat.ne_of_gt (blk_lt (g:=gb481) (o:=.cells #[.int .i64 a0_0, .slice A0_1 l0_1.length c0_1] 24 (0, 0)) (by (with_reducible repeat (first|refine blk_drewN ?_ _|refine blk_drew ?_|refine blk_alloc ?_ _));exact BK481.out)) : gb482 ≠ gb481));clear BK481;clear HB;have BK481:=n0_;have HB:=n1_;have BK482:=n2_;have GW482:=n3_;have GE482:=n4_;have NB481_482:=n5_;have NB482_481:=n6_;clear n0_ n1_ n2_ n3_ n4_ n5_ n6_;clear hb hbox hg;have hnb8:=NB481_482.out;have hnc8:=NB482_481.out;have hcz9_0 : w7.cell? ⟨gb481, 0, none⟩ = some (.int .i64 a0_0):=(blk_cell BK481.out 0).trans rfl;have hcz9_1 : w7.cell? ⟨gb481, 1, none⟩ = some (.slice A0_1 l0_1.length c0_1):=(blk_cell BK481.out 1).trans rfl;have hfz9_0:=blk_frozen BK481.out 0;have hfz9_1:=blk_frozen BK481.out 1)|((with_reducible refine gate_dst (N:=13) rfl ?_);refine Kd.R_make (Kd.int .i64) _ 2 rfl (N:=13) rfl 28 _ _ rfl a0_0 rfl rfl Try.underlying28 (.int .i64 0) 8 info2 rfl (by decide) (by omega) 0 (ok:=fun _ => True) (okp:=fun _ => True) rfl (fun _ hk => hk) trivial (of_decide_eq_true (by first|(with_reducible assumption)|assumption)) (Nat.le_trans (Nat.mul_le_mul_right _ (of_decide_eq_true (by first|(with_reducible assumption)|assumption) : a0_0.toNat ≤ 35184372088832)) (by omega)) (Below.refl _ _) (Nat.le_refl _) ?_;intro v484 w10 ho11 hb hg_ hnew_;clear hg_ hnew_;(first|rw [← Ny483.out] at ho11|(simp only [Int.reduceToNat] at ho11;rw [← Ny483.out] at ho11));have n0_:=Aside0.mk (Kd.R_lower ho11 (below_size (by repeat (first|(with_reducible first|exact HB.out|apply below_alloc|apply pw_below_drewN|apply below_drew1|refine below_set ?_ GE481.out|refine below_set ?_ GE482.out)|exact HB.out))));have n1_:=Aside0.mk (blk_below (g:=gb481) (o:=.cells #[.int .i64 a0_0, .slice A0_1 l0_1.length c0_1] 24 (0, 0)) (by (with_reducible repeat (first|refine blk_drewN ?_ _|refine blk_drew ?_|refine blk_alloc ?_ _));exact BK481.out) hb);have n2_:=Aside0.mk (blk_below (g:=gb482) (o:=.cells #[.int .i64 a1_0, .int .i64 a1_1] 26 (0, 0)) (by (with_reducible repeat (first|refine blk_drewN ?_ _|refine blk_drew ?_|refine blk_alloc ?_ _));exact BK482.out) hb);have n3_:=Aside0.mk (below_step (by repeat (first|(with_reducible first|exact HB.out|apply below_alloc|apply pw_below_drewN|apply below_drew1|refine below_set ?_ GE481.out|refine below_set ?_ GE482.out)|exact HB.out)) hb);clear BK481;clear BK482;clear HB;have HO485:=n0_;have BK481:=n1_;have BK482:=n2_;have HB:=n3_;clear n0_ n1_ n2_ n3_;clear hb ho11))
   go_loopg [8] k (fun kq v8 w' => ∃ (x7_1 : List Int) (x8_1 : Int), v8 = .int .i64 x8_1 ∧ Aside0 (forecourtlaw05_Comes.l0 kq l2 x7_1 x8_1 a0_0 l0_1 a1_0 a1_1 = some r) ∧ Aside0 (kq ≤ k) ∧ Aside0 (Kd.R (Kd.int .i64) 2 w' w.heap.size (fun _ => True) v484 x7_1) ∧ Aside0 (w'.heap[gb481]? = some (.cells #[.int .i64 a0_0, (.slice A0_1 l0_1.length c0_1)] 24 (0, 0))) ∧ Aside0 (w'.heap[gb482]? = some (.cells #[.int .i64 a1_0, .int .i64 a1_1] 26 (0, 0))) ∧ Aside0 (Below w.heap.size w w'))
   case atStart => exact ⟨(y483), (0), (by first|rfl|(simp;done)|(simp [*];done)), H', ⟨Nat.le_refl _⟩, ⟨by (with_reducible repeat (first|apply Kd.R_alloc|apply Kd.R_drewN|apply Kd.R_drew));exact HO485.out⟩, ⟨by (with_reducible repeat (first|refine blk_drewN ?_ _|refine blk_drew ?_|refine blk_alloc ?_ _));exact BK481.out⟩, ⟨by (with_reducible repeat (first|refine blk_drewN ?_ _|refine blk_drew ?_|refine blk_alloc ?_ _));exact BK482.out⟩, ⟨by repeat (first|(with_reducible first|exact HB.out|apply below_alloc|apply pw_below_drewN|apply below_drew1|refine below_set ?_ GE481.out|refine below_set ?_ GE482.out)|exact HB.out)⟩⟩
   case round =>
    clear H'
    try clear c2
    try clear p2
    try clear c4
    try clear c4b0
    try clear c4b1
    try clear c5
    try clear c5b0
    try clear c5b1
    try clear c8
    try clear hcz9_0
    try clear hcz9_1
    try clear hfz9_0
    try clear hfz9_1
    obtain ⟨x7_1, x8_1, rfl, HA, HK1, HO_7, BK481, BK482, HB⟩ := hrel
    cases gk with
    | zero => exact absurd HA.out (by simp [forecourtlaw05_Comes.l0])
    | succ k1 =>
     have H := HA.out
     clear HA
     simp only [forecourtlaw05_Comes.l0] at H
     by_cases c12 : x8_1 < (x7_1.length : Int)
     ·rw [if_pos c12] at H
      have c12b0 : decide (x8_1 < (x7_1.length : Int)) = true := decide_eq_true c12
      clear c12
      by_cases c13 : 0 ≤ x8_1
      ·rw [if_pos c13] at H
       have c13b0 : decide (0 ≤ x8_1) = true := decide_eq_true c13
       clear c13
       obtain ⟨y486, hy486⟩ : ∃ y_ : List Int, y_ = (x7_1.set (x8_1 : Int).toNat 1048576) := ⟨_, rfl⟩
       replace H : (forecourtlaw05_Comes.l0 k1 l2 y486 (wrap64 (x8_1 + 1)) a0_0 l0_1 a1_0 a1_1) = some r:=by first|(rw [hy486];with_reducible exact H)|(have H2_:=(Option.bind_some _ _).symm.trans H;rw [hy486];with_reducible exact H2_)|(have H2_:=(Option.bind_some _ _).symm.trans H;with_reducible exact H2_)|with_reducible exact H|(rw [hy486];exact H)|exact H
       have Ny486 := Aside0.mk hy486
       clear hy486
       have H' := Aside0.mk H
       clear H
       obtain ⟨Ao15, co15, eo15⟩ := Kd.R_slice HO_7.out
       subst eo15
       have p14 : 0 ≤ (x8_1 : Int) := of_decide_eq_true (by first | (with_reducible assumption) | assumption)
       have q14 : (x8_1 : Int) < ((x7_1.length : Int) : Int):=of_decide_eq_true (by first|(with_reducible assumption)|assumption)
       obtain ⟨go14, co14, eo14, gb14, gl14, cl14, HG14⟩ := Kd.R_form HO_7.out (by omega)
       (first|cases eo14|(injection eo14 with ea_ en_ ec_;(first|subst ea_|(injection ea_ with ea_;subst ea_));subst ec_;clear en_))
       have GB14 := Aside0.mk gb14
       have GG14 := Aside0.mk HG14
       clear gb14 gl14 HG14
       obtain ⟨hx14_0, hf14_0⟩ := Kd.R_celln 0 HO_7.out (x8_1 : Int) p14 q14
       replace p14 := eq_true p14
       replace q14 := eq_true q14
       have HP16 := Kd.R_putg HO_7.out (x8_1 : Int) 1048576
       go_wp2_with (first|((with_reducible refine gate_store (t:=2) (p:=22) rfl ?_);refine store_event (t:=2) (p:=22) (v:=?vo_w17) (w1:=(wr.setCell ⟨go14, (x8_1 : Int).toNat, none⟩ (.int .i64 1048576))) ?hg ?ho ?hn ?hr ?_;(case ho => rfl);(case hg => rfl);(case hn => rfl);(case hr => first|(go_simp;done)|(go_simp;rfl));intro w17 hw;have hg : wr.grownBy w17 (some go14):=(by rw [hw];exact HP16.2);have hp_ : Kd.R (Kd.int .i64) 2 w17 w.heap.size (fun _ => True) (.slice (some ⟨go14, 0, none⟩) x7_1.length co15) y486:=(by rw [hw, Ny486.out];exact HP16.1);clear HP16;have n0_:=Aside0.mk (hp_);have n1_:=Aside0.mk (blk_grown (g:=gb481) (o:=.cells #[.int .i64 a0_0, .slice A0_1 l0_1.length c0_1] 24 (0, 0)) (by (with_reducible repeat (first|refine blk_drewN ?_ _|refine blk_drew ?_|refine blk_alloc ?_ _));exact BK481.out) hg (Kd.R_ne HO_7.out BK481.out (by decide)));have n2_:=Aside0.mk (blk_grown (g:=gb482) (o:=.cells #[.int .i64 a1_0, .int .i64 a1_1] 26 (0, 0)) (by (with_reducible repeat (first|refine blk_drewN ?_ _|refine blk_drew ?_|refine blk_alloc ?_ _));exact BK482.out) hg (Kd.R_ne HO_7.out BK482.out (by decide)));have n3_:=Aside0.mk ((by rw [hw];exact below_set (HB.out) GB14.out : Below w.heap.size w w17));clear HO_7;clear BK481;clear BK482;clear HB;have HO_7:=n0_;have BK481:=n1_;have BK482:=n2_;have HB:=n3_;clear n0_ n1_ n2_ n3_;clear hg hw hp_))
       go_roundg k1
       case measure => have := HK1.out; omega
       case rel => exact ⟨(y486), (wrap64 (x8_1 + 1)), (by first|rfl|(simp;done)|(simp [*];done)), H', ⟨by have:=HK1.out;omega⟩, ⟨by (with_reducible repeat (first|apply Kd.R_alloc|apply Kd.R_drewN|apply Kd.R_drew));exact HO_7.out⟩, ⟨by (with_reducible repeat (first|refine blk_drewN ?_ _|refine blk_drew ?_|refine blk_alloc ?_ _));exact BK481.out⟩, ⟨by (with_reducible repeat (first|refine blk_drewN ?_ _|refine blk_drew ?_|refine blk_alloc ?_ _));exact BK482.out⟩, ⟨by repeat (first|(with_reducible first|exact HB.out|apply below_alloc|apply pw_below_drewN|apply below_drew1|refine below_set ?_ GE481.out|refine below_set ?_ GE482.out)|exact HB.out)⟩⟩
      ·rw [if_neg c13] at H
       exact absurd H (by simp)
     ·rw [if_neg c12] at H
      have c12b0 : decide (x8_1 < (x7_1.length : Int)) = false := decide_eq_false c12
      clear c12
      by_cases c18 : 0 ≤ a1_0
      ·rw [if_pos c18] at H
       have c18b0 : decide (0 ≤ a1_0) = true := decide_eq_true c18
       clear c18
       by_cases c19 : a1_0 < (x7_1.length : Int)
       ·rw [if_pos c19] at H
        have c19b0 : decide (a1_0 < (x7_1.length : Int)) = true := decide_eq_true c19
        clear c19
        obtain ⟨y487, hy487⟩ : ∃ y_ : List Int, y_ = (x7_1.set (a1_0 : Int).toNat a1_1) := ⟨_, rfl⟩
        replace H : (forecourtlaw05_Comes.l1 k1 l2 y487 0 a0_0 l0_1) = some r:=by first|(rw [hy487];with_reducible exact H)|(have H2_:=(Option.bind_some _ _).symm.trans H;rw [hy487];with_reducible exact H2_)|(have H2_:=(Option.bind_some _ _).symm.trans H;with_reducible exact H2_)|with_reducible exact H|(rw [hy487];exact H)|exact H
        have Ny487 := Aside0.mk hy487
        clear hy487
        have H' := Aside0.mk H
        clear H
        obtain ⟨Ao21, co21, eo21⟩ := Kd.R_slice HO_7.out
        subst eo21
        have hnb22 := NB482_481.out
        have hnc22 := NB481_482.out
        have hcz23_0 : wr.cell? ⟨gb482, 0, none⟩ = some (.int .i64 a1_0) := (blk_cell BK482.out 0).trans rfl
        have hcz23_1 : wr.cell? ⟨gb482, 1, none⟩ = some (.int .i64 a1_1) := (blk_cell BK482.out 1).trans rfl
        have hfz23_0 := blk_frozen BK482.out 0
        have hfz23_1 := blk_frozen BK482.out 1
        have p20 : 0 ≤ (a1_0 : Int) := of_decide_eq_true (by first | (with_reducible assumption) | assumption)
        have q20 : (a1_0 : Int) < ((x7_1.length : Int) : Int):=of_decide_eq_true (by first|(with_reducible assumption)|assumption)
        obtain ⟨go20, co20, eo20, gb20, gl20, cl20, HG20⟩ := Kd.R_form HO_7.out (by omega)
        (first|cases eo20|(injection eo20 with ea_ en_ ec_;(first|subst ea_|(injection ea_ with ea_;subst ea_));subst ec_;clear en_))
        have GB20 := Aside0.mk gb20
        have GG20 := Aside0.mk HG20
        clear gb20 gl20 HG20
        obtain ⟨hx20_0, hf20_0⟩ := Kd.R_celln 0 HO_7.out (a1_0 : Int) p20 q20
        replace p20 := eq_true p20
        replace q20 := eq_true q20
        have HP24 := Kd.R_putg HO_7.out (a1_0 : Int) a1_1
        go_wp2_with (first|((with_reducible refine gate_store (t:=2) (p:=28) rfl ?_);refine store_event (t:=2) (p:=28) (v:=?vo_w25) (w1:=(wr.setCell ⟨go20, (a1_0 : Int).toNat, none⟩ (.int .i64 a1_1))) ?hg ?ho ?hn ?hr ?_;(case ho => rfl);(case hg => rfl);(case hn => rfl);(case hr => first|(go_simp;done)|(go_simp;rfl));intro w25 hw;have hg : wr.grownBy w25 (some go20):=(by rw [hw];exact HP24.2);have hp_ : Kd.R (Kd.int .i64) 2 w25 w.heap.size (fun _ => True) (.slice (some ⟨go20, 0, none⟩) x7_1.length co21) y487:=(by rw [hw, Ny487.out];exact HP24.1);clear HP24;have n0_:=Aside0.mk (hp_);have n1_:=Aside0.mk (blk_grown (g:=gb481) (o:=.cells #[.int .i64 a0_0, .slice A0_1 l0_1.length c0_1] 24 (0, 0)) (by (with_reducible repeat (first|refine blk_drewN ?_ _|refine blk_drew ?_|refine blk_alloc ?_ _));exact BK481.out) hg (Kd.R_ne HO_7.out BK481.out (by decide)));have n2_:=Aside0.mk (blk_grown (g:=gb482) (o:=.cells #[.int .i64 a1_0, .int .i64 a1_1] 26 (0, 0)) (by (with_reducible repeat (first|refine blk_drewN ?_ _|refine blk_drew ?_|refine blk_alloc ?_ _));exact BK482.out) hg (Kd.R_ne HO_7.out BK482.out (by decide)));have n3_:=Aside0.mk ((by rw [hw];exact below_set (HB.out) GB20.out : Below w.heap.size w w25));clear HO_7;clear BK481;clear BK482;clear HB;have HO_7:=n0_;have BK481:=n1_;have BK482:=n2_;have HB:=n3_;clear n0_ n1_ n2_ n3_;clear hg hw hp_))
        go_loopg [9] k1 (fun kq v9 w' => ∃ (x7_2 : List Int) (x9_2 : Int), v9 = .int .i64 x9_2 ∧ Aside0 (forecourtlaw05_Comes.l1 kq l2 x7_2 x9_2 a0_0 l0_1 = some r) ∧ Aside0 (kq ≤ k1) ∧ Aside0 (Kd.R (Kd.int .i64) 2 w' w.heap.size (fun _ => True) (.slice (some ⟨go20, 0, none⟩) x7_1.length co21) x7_2) ∧ Aside0 (w'.heap[gb481]? = some (.cells #[.int .i64 a0_0, (.slice A0_1 l0_1.length c0_1)] 24 (0, 0))) ∧ Aside0 (w'.heap[gb482]? = some (.cells #[.int .i64 a1_0, .int .i64 a1_1] 26 (0, 0))) ∧ Aside0 (Below w.heap.size w w'))
        case atStart => exact ⟨(y487), (0), (by first|rfl|(simp;done)|(simp [*];done)), H', ⟨Nat.le_refl _⟩, ⟨by (with_reducible repeat (first|apply Kd.R_alloc|apply Kd.R_drewN|apply Kd.R_drew));exact HO_7.out⟩, ⟨by (with_reducible repeat (first|refine blk_drewN ?_ _|refine blk_drew ?_|refine blk_alloc ?_ _));exact BK481.out⟩, ⟨by (with_reducible repeat (first|refine blk_drewN ?_ _|refine blk_drew ?_|refine blk_alloc ?_ _));exact BK482.out⟩, ⟨by repeat (first|(with_reducible first|exact HB.out|apply below_alloc|apply pw_below_drewN|apply below_drew1|refine below_set ?_ GE481.out|refine below_set ?_ GE482.out)|exact HB.out)⟩⟩
        case round =>
         clear H'
         try clear c1
         try clear p1
         try clear q1
         try clear hx1
         try clear c2
         try clear p2
         try clear q2
         try clear hx2
         try clear c4
         try clear c4b0
         try clear c4b1
         try clear c5
         try clear c5b0
         try clear c5b1
         try clear p6
         try clear c8
         try clear c12
         try clear c12b0
         try clear c13
         try clear c13b0
         try clear p14
         try clear q14
         try clear hx14
         try clear hf14
         try clear c18
         try clear c18b0
         try clear c19
         try clear c19b0
         try clear p20
         try clear q20
         try clear hx20
         try clear hf20
         try clear c22
         try clear hcz23_0
         try clear hcz23_1
         try clear hcz9_0
         try clear hcz9_1
         try clear hfz23_0
         try clear hfz23_1
         try clear hfz9_0
         try clear hfz9_1
         try clear hx14_0
         try clear hx20_0
         try clear p14
         try clear p2
         try clear p20
         try clear q14
         try clear q20
         obtain ⟨x7_2, x9_2, rfl, HA, HK2, HO_7, BK481, BK482, HB⟩ := hrel
         have hl7_2 := (Kd.R_reads' HO_7.out).1
         rw [hl7_2] at HO_7
         (try simp only [hl7_2])
         (try simp only [hl7_2] at BK481)
         (try simp only [hl7_2] at BK482)
         cases gk with
         | zero => exact absurd HA.out (by simp [forecourtlaw05_Comes.l1])
         | succ k2 =>
          have H := HA.out
          clear HA
          simp only [forecourtlaw05_Comes.l1] at H
          by_cases c26 : x9_2 < a0_0
          ·rw [if_pos c26] at H
           have c26b0 : decide (x9_2 < a0_0) = true := decide_eq_true c26
           clear c26
           have H' := Aside0.mk H
           clear H
           have hnb27 := NB481_482.out
           have hnc27 := NB482_481.out
           have hcz28_0 : wr.cell? ⟨gb481, 0, none⟩ = some (.int .i64 a0_0) := (blk_cell BK481.out 0).trans rfl
           have hcz28_1 : wr.cell? ⟨gb481, 1, none⟩ = some (.slice A0_1 l0_1.length c0_1):=(blk_cell BK481.out 1).trans rfl
           have hfz28_0 := blk_frozen BK481.out 0
           have hfz28_1 := blk_frozen BK481.out 1
           go_wp2
           go_loopg [10] k2 (fun kq v10 w' => ∃ (x7_3 : List Int) (x10_3 : Int), v10 = .int .i64 x10_3 ∧ Aside0 (forecourtlaw05_Comes.l2 kq l2 x7_3 x9_2 x10_3 a0_0 l0_1 = some r) ∧ Aside0 (kq ≤ k2) ∧ Aside0 (Kd.R (Kd.int .i64) 2 w' w.heap.size (fun _ => True) (.slice (some ⟨go20, 0, none⟩) x7_2.length co21) x7_3) ∧ Aside0 (w'.heap[gb481]? = some (.cells #[.int .i64 a0_0, (.slice A0_1 l0_1.length c0_1)] 24 (0, 0))) ∧ Aside0 (w'.heap[gb482]? = some (.cells #[.int .i64 a1_0, .int .i64 a1_1] 26 (0, 0))) ∧ Aside0 (Below w.heap.size w w'))
           case atStart => exact ⟨(x7_2), (0), (by first|rfl|(simp;done)|(simp [*];done)), H', ⟨Nat.le_refl _⟩, ⟨by (try simp only [hl7_2]);(with_reducible repeat (first|apply Kd.R_alloc|apply Kd.R_drewN|apply Kd.R_drew));exact HO_7.out⟩, ⟨by (try simp only [hl7_2]);(with_reducible repeat (first|refine blk_drewN ?_ _|refine blk_drew ?_|refine blk_alloc ?_ _));exact BK481.out⟩, ⟨by (try simp only [hl7_2]);(with_reducible repeat (first|refine blk_drewN ?_ _|refine blk_drew ?_|refine blk_alloc ?_ _));exact BK482.out⟩, ⟨by repeat (first|(with_reducible first|exact HB.out|apply below_alloc|apply pw_below_drewN|apply below_drew1|refine below_set ?_ GE481.out|refine below_set ?_ GE482.out)|exact HB.out)⟩⟩
           case round =>
            clear H'
            try clear c1
            try clear p1
            try clear q1
            try clear hx1
            try clear c2
            try clear p2
            try clear q2
            try clear hx2
            try clear c4
            try clear c4b0
            try clear c4b1
            try clear c5
            try clear c5b0
            try clear c5b1
            try clear p6
            try clear c8
            try clear c12
            try clear c12b0
            try clear c13
            try clear c13b0
            try clear p14
            try clear q14
            try clear hx14
            try clear hf14
            try clear c18
            try clear c18b0
            try clear c19
            try clear c19b0
            try clear p20
            try clear q20
            try clear hx20
            try clear hf20
            try clear c22
            try clear c26
            try clear c26b0
            try clear c27
            try clear hcz23_0
            try clear hcz23_1
            try clear hcz28_0
            try clear hcz28_1
            try clear hcz9_0
            try clear hcz9_1
            try clear hfz23_0
            try clear hfz23_1
            try clear hfz28_0
            try clear hfz28_1
            try clear hfz9_0
            try clear hfz9_1
            try clear hx14_0
            try clear hx20_0
            try clear p1
            try clear p14
            try clear p2
            try clear p20
            try clear p6
            try clear q1
            try clear q14
            try clear q2
            try clear q20
            obtain ⟨x7_3, x10_3, rfl, HA, HK3, HO_7, BK481, BK482, HB⟩ := hrel
            have hl7_3 := (Kd.R_reads' HO_7.out).1
            rw [hl7_3] at HO_7
            (try simp only [hl7_3])
            (try simp only [hl7_3] at BK481)
            (try simp only [hl7_3] at BK482)
            cases gk with
            | zero => exact absurd HA.out (by simp [forecourtlaw05_Comes.l2])
            | succ k3 =>
             have H := HA.out
             clear HA
             simp only [forecourtlaw05_Comes.l2] at H
             have HC29 := Aside0.mk H
             clear H
             go_upto_region 11 with (fail)
             go_cut [45] (fun v45 wc => ∃ (kq : Nat) (x45_28 : Bool), v45 = .bool x45_28 ∧ Aside0 (forecourtlaw05_Comes.j3 kq l2 x7_3 x9_2 x10_3 x45_28 a0_0 l0_1 = some r) ∧ Aside0 (kq ≤ k3) ∧ Aside0 (Kd.R (Kd.int .i64) 2 wc w.heap.size (fun _ => True) (.slice (some ⟨go20, 0, none⟩) x7_3.length co21) x7_3) ∧ Aside0 (wc.heap[gb481]? = some (.cells #[.int .i64 a0_0, (.slice A0_1 l0_1.length c0_1)] 24 (0, 0))) ∧ Aside0 (wc.heap[gb482]? = some (.cells #[.int .i64 a1_0, .int .i64 a1_1] 26 (0, 0))) ∧ Aside0 (Below w.heap.size w wc))
             case first =>
              have H := HC29.out
              clear HC29
              by_cases c30 : x10_3 < (l0_1.length : Int)
              ·rw [if_pos c30] at H
               have c30b0 : decide (x10_3 < (l0_1.length : Int)) = true := decide_eq_true c30
               clear c30
               (first | rw [c30b0] | (simp only [i64_w, i32_w]; rw [c30b0]) | skip)
               have H' := Aside0.mk H
               clear H
               have hnb31 := NB481_482.out
               have hnc31 := NB482_481.out
               have hcz32_0 : wr.cell? ⟨gb481, 0, none⟩ = some (.int .i64 a0_0) := (blk_cell BK481.out 0).trans rfl
               have hcz32_1 : wr.cell? ⟨gb481, 1, none⟩ = some (.slice A0_1 l0_1.length c0_1):=(blk_cell BK481.out 1).trans rfl
               have hfz32_0 := blk_frozen BK481.out 0
               have hfz32_1 := blk_frozen BK481.out 1
               go_wp2
               go_meet
               case rel => exact ⟨_, (decide (x10_3 < (l2.length : Int))), (by first|rfl|(simp;done)|(simp [*];done)), H', ⟨by have:=HK1.out;have:=HK2.out;have:=HK3.out;first|omega|exact Nat.le_refl _⟩, ⟨by (try simp only [hl7_2]);(try simp only [hl7_3]);(with_reducible repeat (first|apply Kd.R_alloc|apply Kd.R_drewN|apply Kd.R_drew));exact HO_7.out⟩, ⟨by (try simp only [hl7_2]);(try simp only [hl7_3]);(with_reducible repeat (first|refine blk_drewN ?_ _|refine blk_drew ?_|refine blk_alloc ?_ _));exact BK481.out⟩, ⟨by (try simp only [hl7_2]);(try simp only [hl7_3]);(with_reducible repeat (first|refine blk_drewN ?_ _|refine blk_drew ?_|refine blk_alloc ?_ _));exact BK482.out⟩, ⟨by repeat (first|(with_reducible first|exact HB.out|apply below_alloc|apply pw_below_drewN|apply below_drew1|refine below_set ?_ GE481.out|refine below_set ?_ GE482.out)|exact HB.out)⟩⟩
              ·rw [if_neg c30] at H
               have c30b0 : decide (x10_3 < (l0_1.length : Int)) = false := decide_eq_false c30
               clear c30
               (first | rw [c30b0] | (simp only [i64_w, i32_w]; rw [c30b0]) | skip)
               have H' := Aside0.mk H
               clear H
               have hnb33 := NB481_482.out
               have hnc33 := NB482_481.out
               have hcz34_0 : wr.cell? ⟨gb481, 0, none⟩ = some (.int .i64 a0_0) := (blk_cell BK481.out 0).trans rfl
               have hcz34_1 : wr.cell? ⟨gb481, 1, none⟩ = some (.slice A0_1 l0_1.length c0_1):=(blk_cell BK481.out 1).trans rfl
               have hfz34_0 := blk_frozen BK481.out 0
               have hfz34_1 := blk_frozen BK481.out 1
               go_wp2
               go_meet
               case rel => exact ⟨_, (false), (by first|rfl|(simp;done)|(simp [*];done)), H', ⟨by have:=HK1.out;have:=HK2.out;have:=HK3.out;first|omega|exact Nat.le_refl _⟩, ⟨by (try simp only [hl7_2]);(try simp only [hl7_3]);(with_reducible repeat (first|apply Kd.R_alloc|apply Kd.R_drewN|apply Kd.R_drew));exact HO_7.out⟩, ⟨by (try simp only [hl7_2]);(try simp only [hl7_3]);(with_reducible repeat (first|refine blk_drewN ?_ _|refine blk_drew ?_|refine blk_alloc ?_ _));exact BK481.out⟩, ⟨by (try simp only [hl7_2]);(try simp only [hl7_3]);(with_reducible repeat (first|refine blk_drewN ?_ _|refine blk_drew ?_|refine blk_alloc ?_ _));exact BK482.out⟩, ⟨by repeat (first|(with_reducible first|exact HB.out|apply below_alloc|apply pw_below_drewN|apply below_drew1|refine below_set ?_ GE481.out|refine below_set ?_ GE482.out)|exact HB.out)⟩⟩
             case rest =>
              clear HC29
              try clear c1
              try clear p1
              try clear q1
              try clear hx1
              try clear c2
              try clear p2
              try clear q2
              try clear hx2
              try clear c3
              try clear c4
              try clear c4b0
              try clear c4b1
              try clear c5
              try clear c5b0
              try clear c5b1
              try clear p6
              try clear c8
              try clear c12
              try clear c12b0
              try clear c13
              try clear c13b0
              try clear p14
              try clear q14
              try clear hx14
              try clear hf14
              try clear c18
              try clear c18b0
              try clear c19
              try clear c19b0
              try clear p20
              try clear q20
              try clear hx20
              try clear hf20
              try clear c22
              try clear c26
              try clear c26b0
              try clear c27
              try clear c30
              try clear c30b0
              try clear c31
              try clear c33
              try clear hcz23_0
              try clear hcz23_1
              try clear hcz28_0
              try clear hcz28_1
              try clear hcz32_0
              try clear hcz32_1
              try clear hcz34_0
              try clear hcz34_1
              try clear hcz9_0
              try clear hcz9_1
              try clear hfz23_0
              try clear hfz23_1
              try clear hfz28_0
              try clear hfz28_1
              try clear hfz32_0
              try clear hfz32_1
              try clear hfz34_0
              try clear hfz34_1
              try clear hfz9_0
              try clear hfz9_1
              try clear hx14_0
              try clear hx20_0
              try clear p1
              try clear p14
              try clear p2
              try clear p20
              try clear p6
              try clear q1
              try clear q14
              try clear q2
              try clear q20
              obtain ⟨kq, x45_28, rfl, HA, HJ28, HO_7, BK481, BK482, HB⟩ := hcut
              cases kq with
              | zero => exact absurd HA.out (by simp [forecourtlaw05_Comes.j3])
              | succ kj28 =>
               have H := HA.out
               clear HA
               simp only [forecourtlaw05_Comes.j3] at H
               by_cases c35 : x45_28 = true
               ·subst c35
                have H1 : (if 0 ≤ x10_3 then (if x10_3 < (l2.length : Int) then (if x10_3 < (l0_1.length : Int) then (if 0 ≤ ((rd_T58 l0_1 x10_3).f0) then (if ((rd_T58 l0_1 x10_3).f0) < (x7_3.length : Int) then (if (rd l2 x10_3) ≥ (rd x7_3 ((rd_T58 l0_1 x10_3).f0)) then (if 0 ≤ ((rd_T58 l0_1 x10_3).f1) then (if ((rd_T58 l0_1 x10_3).f1) < (x7_3.length : Int) then (forecourtlaw05_Comes.l2 kj28 l2 (x7_3.set (((rd_T58 l0_1 x10_3).f1) : Int).toNat (mn (rd x7_3 ((rd_T58 l0_1 x10_3).f1)) (rd l2 x10_3))) x9_2 (wrap64 (x10_3 + 1)) a0_0 l0_1) else (none)) else (none)) else (forecourtlaw05_Comes.l2 kj28 l2 x7_3 x9_2 (wrap64 (x10_3 + 1)) a0_0 l0_1)) else (none)) else (none)) else (none)) else (none)) else (none)) = some r:=by rw [if_pos rfl] at H;exact H
                clear H
                have H := H1
                clear H1
                by_cases c36 : 0 ≤ x10_3
                ·rw [if_pos c36] at H
                 have c36b0 : decide (0 ≤ x10_3) = true := decide_eq_true c36
                 clear c36
                 by_cases c37 : x10_3 < (l2.length : Int)
                 ·rw [if_pos c37] at H
                  have c37b0 : decide (x10_3 < (l2.length : Int)) = true := decide_eq_true c37
                  clear c37
                  by_cases c38 : x10_3 < (l0_1.length : Int)
                  ·rw [if_pos c38] at H
                   have c38b0 : decide (x10_3 < (l0_1.length : Int)) = true := decide_eq_true c38
                   clear c38
                   by_cases c39 : 0 ≤ ((rd_T58 l0_1 x10_3).f0)
                   ·rw [if_pos c39] at H
                    have c39b0 : decide (0 ≤ ((rd_T58 l0_1 x10_3).f0)) = true := decide_eq_true c39
                    clear c39
                    by_cases c40 : ((rd_T58 l0_1 x10_3).f0) < (x7_3.length : Int)
                    ·rw [if_pos c40] at H
                     have c40b0 : decide (((rd_T58 l0_1 x10_3).f0) < (x7_3.length : Int)) = true := decide_eq_true c40
                     clear c40
                     by_cases c41 : (rd l2 x10_3) ≥ (rd x7_3 ((rd_T58 l0_1 x10_3).f0))
                     ·rw [if_pos c41] at H
                      have c41b0 : decide ((rd x7_3 ((rd_T58 l0_1 x10_3).f0)) ≤ (rd l2 x10_3)) = true:=decide_eq_true c41
                      clear c41
                      by_cases c42 : 0 ≤ ((rd_T58 l0_1 x10_3).f1)
                      ·rw [if_pos c42] at H
                       have c42b0 : decide (0 ≤ ((rd_T58 l0_1 x10_3).f1)) = true := decide_eq_true c42
                       clear c42
                       by_cases c43 : ((rd_T58 l0_1 x10_3).f1) < (x7_3.length : Int)
                       ·rw [if_pos c43] at H
                        have c43b0 : decide (((rd_T58 l0_1 x10_3).f1) < (x7_3.length : Int)) = true:=decide_eq_true c43
                        clear c43
                        obtain ⟨ji44, hji44⟩ : ∃ j_ : Int, (mn (rd x7_3 ((rd_T58 l0_1 x10_3).f1)) (rd l2 x10_3)) = j_:=⟨_, rfl⟩
                        replace H : (forecourtlaw05_Comes.l2 kj28 l2 (x7_3.set (((rd_T58 l0_1 x10_3).f1) : Int).toNat (ji44)) x9_2 (wrap64 (x10_3 + 1)) a0_0 l0_1) = some r:=by first|(rw [hji44] at H;exact H)|(simp only [hji44] at H ⊢;exact H)
                        have hji44_ : (if (rd l2 x10_3) < (rd x7_3 ((rd_T58 l0_1 x10_3).f1)) then (rd l2 x10_3) else (rd x7_3 ((rd_T58 l0_1 x10_3).f1))) = ji44:=hji44
                        obtain ⟨y495, hy495⟩ : ∃ y_ : List Int, y_ = (x7_3.set (((rd_T58 l0_1 x10_3).f1) : Int).toNat (ji44)):=⟨_, rfl⟩
                        replace H : (forecourtlaw05_Comes.l2 kj28 l2 y495 x9_2 (wrap64 (x10_3 + 1)) a0_0 l0_1) = some r:=by first|(rw [hy495];with_reducible exact H)|(have H2_:=(Option.bind_some _ _).symm.trans H;rw [hy495];with_reducible exact H2_)|(have H2_:=(Option.bind_some _ _).symm.trans H;with_reducible exact H2_)|with_reducible exact H|(rw [hy495];exact H)|exact H
                        have Ny495 := Aside0.mk hy495
                        clear hy495
                        have H' := Aside0.mk H
                        clear H
                        try go_wp2
                        have n0_ := Aside0.mk (Kd.R_drew HO_7.out)
                        have n1_ := Aside0.mk (blk_drew BK481.out)
                        have n2_ := Aside0.mk (blk_drew BK482.out)
                        have n3_ := Aside0.mk (below_drew1 HB.out)
                        clear HO_7
                        clear BK481
                        clear BK482
                        clear HB
                        have HO_7 := n0_
                        have BK481 := n1_
                        have BK482 := n2_
                        have HB := n3_
                        clear n0_ n1_ n2_ n3_
                        have p488 : 0 ≤ (x10_3 : Int):=of_decide_eq_true (by first|(with_reducible assumption)|assumption)
                        have q488 : x10_3 < (l2.length : Int):=of_decide_eq_true (by first|(with_reducible assumption)|assumption)
                        obtain ⟨ad488, e488, hx488_0⟩ := Kd.at_int HR2.out x10_3 p488 q488
                        have hw488_0 := hx488_0
                        cases e488
                        replace hx488_0 := (HB.out.cell (World.block_lt_of_cell? w _ hx488_0)).trans hx488_0
                        replace p488 := eq_true p488
                        replace q488 := eq_true q488
                        have p489 : 0 ≤ (x10_3 : Int):=of_decide_eq_true (by first|(with_reducible assumption)|assumption)
                        have q489 : x10_3 < (l0_1.length : Int):=of_decide_eq_true (by first|(with_reducible assumption)|assumption)
                        obtain ⟨ad489, e489, hx489_0, hx489_1, hx489_2, hx489_3⟩ := at_T58 HR0_1.out x10_3 p489 q489
                        have hw489_3 := hx489_3
                        have hw489_2 := hx489_2
                        have hw489_1 := hx489_1
                        have hw489_0 := hx489_0
                        cases e489
                        replace hx489_0 := (HB.out.cell (World.block_lt_of_cell? w _ hx489_0)).trans hx489_0
                        replace hx489_1 := (HB.out.cell (World.block_lt_of_cell? w _ hx489_1)).trans hx489_1
                        replace hx489_2 := (HB.out.cell (World.block_lt_of_cell? w _ hx489_2)).trans hx489_2
                        replace hx489_3 := (HB.out.cell (World.block_lt_of_cell? w _ hx489_3)).trans hx489_3
                        replace p489 := eq_true p489
                        replace q489 := eq_true q489
                        have p490 : 0 ≤ (((rd_T58 l0_1 x10_3).f0) : Int):=of_decide_eq_true (by first|(with_reducible assumption)|assumption)
                        have q490 : ((rd_T58 l0_1 x10_3).f0) < (x7_3.length : Int):=of_decide_eq_true (by first|(with_reducible assumption)|assumption)
                        obtain ⟨ad490, e490, hx490_0⟩:=Kd.at_int (Kd.R_reads' HO_7.out).2.2 ((rd_T58 l0_1 x10_3).f0) p490 q490
                        obtain rfl : (⟨go20, 0, none⟩ : Addr) = ad490 := (by injection e490)
                        (first|simp only [add_plain] at hx490_0|simp only [add_at] at hx490_0|simp only [Addr.add, Nat.zero_add] at hx490_0|skip)
                        replace p490 := eq_true p490
                        replace q490 := eq_true q490
                        refine start_ (n:=14) (S:=fun w' => w'.cell? ⟨gb481, 0, none⟩ = some (.int .i64 a0_0) ∧ w'.cell? ⟨gb481, 1, none⟩ = some (.slice (some ad489) l0_1.length c0_1) ∧ w'.cell? (ad488.add (x10_3).toNat) = some (.int .i64 (rd l2 x10_3)) ∧ w'.cell? (ad489.add ((x10_3).toNat * 4)) = some (.int .i64 ((rd_T58 l0_1 x10_3).f0)) ∧ w'.cell? ⟨(ad489.add ((x10_3).toNat * 4)).block, (ad489.add ((x10_3).toNat * 4)).off + 1, none⟩ = some (.int .i64 ((rd_T58 l0_1 x10_3).f1)) ∧ w'.cell? ⟨(ad489.add ((x10_3).toNat * 4)).block, (ad489.add ((x10_3).toNat * 4)).off + 2, none⟩ = some (.int .i64 ((rd_T58 l0_1 x10_3).f2.f0)) ∧ w'.cell? ⟨(ad489.add ((x10_3).toNat * 4)).block, (ad489.add ((x10_3).toNat * 4)).off + 3, none⟩ = some (.int .i64 ((rd_T58 l0_1 x10_3).f2.f1)) ∧ w'.cell? ⟨go20, (((rd_T58 l0_1 x10_3).f0)).toNat, none⟩ = some (.int .i64 (rd x7_3 ((rd_T58 l0_1 x10_3).f0)))) (ds:=[]) #[false, false, false, false, false, false, false, false, false, false, false, false, false, false] (by kernel_rfl) rfl rfl ⟨(blk_cell BK481.out 0).trans rfl, (blk_cell BK481.out 1).trans rfl, ((HB.out.cell (World.block_lt_of_cell? w _ hw488_0)).trans hw488_0), ((HB.out.cell (World.block_lt_of_cell? w _ hw489_0)).trans hw489_0), ((HB.out.cell (World.block_lt_of_cell? w _ hw489_1)).trans hw489_1), ((HB.out.cell (World.block_lt_of_cell? w _ hw489_2)).trans hw489_2), ((HB.out.cell (World.block_lt_of_cell? w _ hw489_3)).trans hw489_3), hx490_0⟩ (fun hHeld => ?_);refine with_tabW forecourtlaw05_Comes.tab13 forecourtlaw05_Comes.bits13 (fun HT_ HW_ => ?_)
                        generalize wc.drew = w46 at HO_7 BK481 BK482 HB hx488_0 hx489_0 hx489_1 hx489_2 hx489_3 hx490_0 hHeld ⊢
                        refine pure_ (i:=0) (N:=some 48) (v:=?_) (a':=?_) #[true, false, false, false, false, false, false, false, false, false, false, false, false, false] rfl rfl (any_of HT_.out (by kernel_rfl)) (fun _ _ _ h => h) (Or.inl ⟨by rfl, ?_⟩) ?_ ?_
                        rotate_left
                        ·intro w'
                         go_simp
                         with_reducible rfl
                        rotate_left
                        ·simp only [Act.put, List.setIfInBounds_toArray, List.set_cons_zero, List.set_cons_succ, i64_w, i32_w]
                         rfl
                        refine pure_ (i:=1) (N:=some 49) (v:=?_) (a':=?_) #[true, true, false, false, false, false, false, false, false, false, false, false, false, false] rfl rfl (any_of HT_.out (by kernel_rfl)) (fun _ _ _ h => h) (Or.inl ⟨by rfl, ?_⟩) ?_ ?_
                        rotate_left
                        ·intro w'
                         go_simp
                         with_reducible rfl
                        rotate_left
                        ·simp only [Act.put, List.setIfInBounds_toArray, List.set_cons_zero, List.set_cons_succ, i64_w, i32_w]
                         rfl
                        refine pure_ (i:=2) (N:=some 50) (v:=?_) (a':=?_) #[true, true, true, false, false, false, false, false, false, false, false, false, false, false] rfl rfl (any_of HT_.out (by kernel_rfl)) (fun _ _ _ h => h) (Or.inl ⟨by rfl, ?_⟩) ?_ ?_
                        rotate_left
                        ·intro w'
                         go_simp
                         with_reducible rfl
                        rotate_left
                        ·simp only [Act.put, List.setIfInBounds_toArray, List.set_cons_zero, List.set_cons_succ, i64_w, i32_w]
                         rfl
                        refine pure_ (i:=4) (N:=some 52) (v:=?_) (a':=?_) #[true, true, true, false, true, false, false, false, false, false, false, false, false, false] rfl rfl (any_of HT_.out (by kernel_rfl)) (fun _ _ _ h => h) (Or.inl ⟨by rfl, ?_⟩) ?_ ?_
                        rotate_left
                        ·intro w'
                         go_simp
                         with_reducible rfl
                        rotate_left
                        ·simp only [Act.put, List.setIfInBounds_toArray, List.set_cons_zero, List.set_cons_succ, i64_w, i32_w]
                         rfl
                        refine pure_ (i:=5) (N:=some 53) (v:=?_) (a':=?_) #[true, true, true, false, true, true, false, false, false, false, false, false, false, false] rfl rfl (any_of HT_.out (by kernel_rfl)) (fun _ _ _ h => h) (Or.inl ⟨by rfl, ?_⟩) ?_ ?_
                        rotate_left
                        ·intro w'
                         go_simp
                         with_reducible rfl
                        rotate_left
                        ·simp only [Act.put, List.setIfInBounds_toArray, List.set_cons_zero, List.set_cons_succ, i64_w, i32_w]
                         rfl
                        refine pure_ (i:=7) (N:=some 55) (v:=?_) (a':=?_) #[true, true, true, false, true, true, false, true, false, false, false, false, false, false] rfl rfl (any_of HT_.out (by kernel_rfl)) (fun _ _ _ h => h) (Or.inl ⟨by rfl, ?_⟩) ?_ ?_
                        rotate_left
                        ·intro w'
                         go_simp
                         with_reducible rfl
                        rotate_left
                        ·simp only [Act.put, List.setIfInBounds_toArray, List.set_cons_zero, List.set_cons_succ, i64_w, i32_w]
                         rfl
                        refine take_ (i:=3) (N:=some 51) (v:=?_) (a':=?_) #[true, true, true, true, true, true, false, true, false, false, false, false, false, false] rfl rfl (take_ofW HT_.out HW_.out (by kernel_rfl)) (fun _ _ _ h => h) (Or.inl ⟨by rfl, ?_⟩) hHeld ?_ ?_
                        rotate_left
                        ·rintro w' ⟨s0, s1, s2, s3, s4, s5, s6, s7⟩
                         go_simp
                         with_reducible rfl
                        rotate_left
                        ·simp only [Act.put, List.setIfInBounds_toArray, List.set_cons_zero, List.set_cons_succ, i64_w, i32_w]
                         rfl
                        refine take_ (i:=6) (N:=some 54) (v:=?_) (a':=?_) #[true, true, true, true, true, true, true, true, false, false, false, false, false, false] rfl rfl (take_ofW HT_.out HW_.out (by kernel_rfl)) (fun _ _ _ h => h) (Or.inl ⟨by rfl, ?_⟩) hHeld ?_ ?_
                        rotate_left
                        ·rintro w' ⟨s0, s1, s2, s3, s4, s5, s6, s7⟩
                         go_simp
                         with_reducible rfl
                        rotate_left
                        ·simp only [Act.put, List.setIfInBounds_toArray, List.set_cons_zero, List.set_cons_succ, i64_w, i32_w]
                         rfl
                        refine pure_ (i:=8) (N:=some 56) (v:=?_) (a':=?_) #[true, true, true, true, true, true, true, true, true, false, false, false, false, false] rfl rfl (any_of HT_.out (by kernel_rfl)) (fun _ _ _ h => h) (Or.inl ⟨by rfl, ?_⟩) ?_ ?_
                        rotate_left
                        ·intro w'
                         go_simp
                         with_reducible rfl
                        rotate_left
                        ·simp only [Act.put, List.setIfInBounds_toArray, List.set_cons_zero, List.set_cons_succ, i64_w, i32_w]
                         rfl
                        refine pure_ (i:=9) (N:=some 57) (v:=?_) (a':=?_) #[true, true, true, true, true, true, true, true, true, true, false, false, false, false] rfl rfl (any_of HT_.out (by kernel_rfl)) (fun _ _ _ h => h) (Or.inl ⟨by rfl, ?_⟩) ?_ ?_
                        rotate_left
                        ·intro w'
                         go_simp
                         with_reducible rfl
                        rotate_left
                        ·simp only [Act.put, List.setIfInBounds_toArray, List.set_cons_zero, List.set_cons_succ, i64_w, i32_w]
                         rfl
                        refine take_ (i:=10) (N:=some 58) (v:=?_) (a':=?_) #[true, true, true, true, true, true, true, true, true, true, true, false, false, false] rfl rfl (take_ofW HT_.out HW_.out (by kernel_rfl)) (fun _ _ _ h => h) (Or.inl ⟨by rfl, ?_⟩) hHeld ?_ ?_
                        rotate_left
                        ·rintro w' ⟨s0, s1, s2, s3, s4, s5, s6, s7⟩
                         go_simp
                         with_reducible rfl
                        rotate_left
                        ·simp only [Act.put, List.setIfInBounds_toArray, List.set_cons_zero, List.set_cons_succ, i64_w, i32_w]
                         rfl
                        refine pure_ (i:=11) (N:=some 59) (v:=?_) (a':=?_) #[true, true, true, true, true, true, true, true, true, true, true, true, false, false] rfl rfl (any_of HT_.out (by kernel_rfl)) (fun _ _ _ h => h) (Or.inl ⟨by rfl, ?_⟩) ?_ ?_
                        rotate_left
                        ·intro w'
                         go_simp
                         with_reducible rfl
                        rotate_left
                        ·simp only [Act.put, List.setIfInBounds_toArray, List.set_cons_zero, List.set_cons_succ, i64_w, i32_w]
                         rfl
                        refine take_ (i:=12) (N:=some 60) (v:=?_) (a':=?_) #[true, true, true, true, true, true, true, true, true, true, true, true, true, false] rfl rfl (take_ofW HT_.out HW_.out (by kernel_rfl)) (fun _ _ _ h => h) (Or.inl ⟨by rfl, ?_⟩) hHeld ?_ ?_
                        rotate_left
                        ·rintro w' ⟨s0, s1, s2, s3, s4, s5, s6, s7⟩
                         go_simp
                         with_reducible rfl
                        rotate_left
                        ·simp only [Act.put, List.setIfInBounds_toArray, List.set_cons_zero, List.set_cons_succ, i64_w, i32_w]
                         rfl
                        refine pure_ (i:=13) (N:=some 61) (v:=?_) (a':=?_) #[true, true, true, true, true, true, true, true, true, true, true, true, true, true] rfl rfl (any_of HT_.out (by kernel_rfl)) (fun _ _ _ h => h) (Or.inl ⟨by rfl, ?_⟩) ?_ ?_
                        rotate_left
                        ·intro w'
                         go_simp
                         with_reducible rfl
                        rotate_left
                        ·simp only [Act.put, List.setIfInBounds_toArray, List.set_cons_zero, List.set_cons_succ, i64_w, i32_w]
                         rfl
                        refine done_ (done_of HT_.out (by kernel_rfl)) ?_
                        try go_wp2
                        have n0_ := Aside0.mk (Kd.R_drew HO_7.out)
                        have n1_ := Aside0.mk (blk_drew BK481.out)
                        have n2_ := Aside0.mk (blk_drew BK482.out)
                        have n3_ := Aside0.mk (below_drew1 HB.out)
                        clear HO_7
                        clear BK481
                        clear BK482
                        clear HB
                        have HO_7 := n0_
                        have BK481 := n1_
                        have BK482 := n2_
                        have HB := n3_
                        clear n0_ n1_ n2_ n3_
                        have p491 : 0 ≤ (x10_3 : Int):=of_decide_eq_true (by first|(with_reducible assumption)|assumption)
                        have q491 : x10_3 < (l0_1.length : Int):=of_decide_eq_true (by first|(with_reducible assumption)|assumption)
                        obtain ⟨ad491, e491, hx491_0, hx491_1, hx491_2, hx491_3⟩ := at_T58 HR0_1.out x10_3 p491 q491
                        have hw491_3 := hx491_3
                        have hw491_2 := hx491_2
                        have hw491_1 := hx491_1
                        have hw491_0 := hx491_0
                        obtain rfl : ad489 = ad491 := (by injection e491)
                        replace hx491_0 := (HB.out.cell (World.block_lt_of_cell? w _ hx491_0)).trans hx491_0
                        replace hx491_1 := (HB.out.cell (World.block_lt_of_cell? w _ hx491_1)).trans hx491_1
                        replace hx491_2 := (HB.out.cell (World.block_lt_of_cell? w _ hx491_2)).trans hx491_2
                        replace hx491_3 := (HB.out.cell (World.block_lt_of_cell? w _ hx491_3)).trans hx491_3
                        replace p491 := eq_true p491
                        replace q491 := eq_true q491
                        have p492 : 0 ≤ (x10_3 : Int):=of_decide_eq_true (by first|(with_reducible assumption)|assumption)
                        have q492 : x10_3 < (l0_1.length : Int):=of_decide_eq_true (by first|(with_reducible assumption)|assumption)
                        obtain ⟨ad492, e492, hx492_0, hx492_1, hx492_2, hx492_3⟩ := at_T58 HR0_1.out x10_3 p492 q492
                        have hw492_3 := hx492_3
                        have hw492_2 := hx492_2
                        have hw492_1 := hx492_1
                        have hw492_0 := hx492_0
                        obtain rfl : ad489 = ad492 := (by injection e492)
                        replace hx492_0 := (HB.out.cell (World.block_lt_of_cell? w _ hx492_0)).trans hx492_0
                        replace hx492_1 := (HB.out.cell (World.block_lt_of_cell? w _ hx492_1)).trans hx492_1
                        replace hx492_2 := (HB.out.cell (World.block_lt_of_cell? w _ hx492_2)).trans hx492_2
                        replace hx492_3 := (HB.out.cell (World.block_lt_of_cell? w _ hx492_3)).trans hx492_3
                        replace p492 := eq_true p492
                        replace q492 := eq_true q492
                        have p493 : 0 ≤ (((rd_T58 l0_1 x10_3).f1) : Int):=of_decide_eq_true (by first|(with_reducible assumption)|assumption)
                        have q493 : ((rd_T58 l0_1 x10_3).f1) < (x7_3.length : Int):=of_decide_eq_true (by first|(with_reducible assumption)|assumption)
                        obtain ⟨ad493, e493, hx493_0⟩:=Kd.at_int (Kd.R_reads' HO_7.out).2.2 ((rd_T58 l0_1 x10_3).f1) p493 q493
                        obtain rfl : (⟨go20, 0, none⟩ : Addr) = ad493 := (by injection e493)
                        (first|simp only [add_plain] at hx493_0|simp only [add_at] at hx493_0|simp only [Addr.add, Nat.zero_add] at hx493_0|skip)
                        replace p493 := eq_true p493
                        replace q493 := eq_true q493
                        have p494 : 0 ≤ (x10_3 : Int):=of_decide_eq_true (by first|(with_reducible assumption)|assumption)
                        have q494 : x10_3 < (l2.length : Int):=of_decide_eq_true (by first|(with_reducible assumption)|assumption)
                        obtain ⟨ad494, e494, hx494_0⟩ := Kd.at_int HR2.out x10_3 p494 q494
                        have hw494_0 := hx494_0
                        obtain rfl : ad488 = ad494 := (by injection e494)
                        replace hx494_0 := (HB.out.cell (World.block_lt_of_cell? w _ hx494_0)).trans hx494_0
                        replace p494 := eq_true p494
                        replace q494 := eq_true q494
                        have p45 : 0 ≤ (((rd_T58 l0_1 x10_3).f1) : Int):=of_decide_eq_true (by first|(with_reducible assumption)|assumption)
                        have q45 : (((rd_T58 l0_1 x10_3).f1) : Int) < ((x7_3.length : Int) : Int):=of_decide_eq_true (by first|(with_reducible assumption)|assumption)
                        obtain ⟨hx45_0, hf45_0⟩ := Kd.R_celln 0 HO_7.out (((rd_T58 l0_1 x10_3).f1) : Int) p45 q45
                        replace p45 := eq_true p45
                        replace q45 := eq_true q45
                        have HP48 := Kd.R_putn HO_7.out (((rd_T58 l0_1 x10_3).f1) : Int) ji44
                        rw [← Ny495.out] at HP48
                        have HQ48 := Aside0.mk HP48
                        clear HP48
                        refine start_ (n:=23) (S:=fun w' => w'.cell? ⟨gb481, 0, none⟩ = some (.int .i64 a0_0) ∧ w'.cell? ⟨gb481, 1, none⟩ = some (.slice (some ad489) l0_1.length c0_1) ∧ w'.cell? (ad489.add ((x10_3).toNat * 4)) = some (.int .i64 ((rd_T58 l0_1 x10_3).f0)) ∧ w'.cell? ⟨(ad489.add ((x10_3).toNat * 4)).block, (ad489.add ((x10_3).toNat * 4)).off + 1, none⟩ = some (.int .i64 ((rd_T58 l0_1 x10_3).f1)) ∧ w'.cell? ⟨(ad489.add ((x10_3).toNat * 4)).block, (ad489.add ((x10_3).toNat * 4)).off + 2, none⟩ = some (.int .i64 ((rd_T58 l0_1 x10_3).f2.f0)) ∧ w'.cell? ⟨(ad489.add ((x10_3).toNat * 4)).block, (ad489.add ((x10_3).toNat * 4)).off + 3, none⟩ = some (.int .i64 ((rd_T58 l0_1 x10_3).f2.f1)) ∧ w'.cell? (ad489.add ((x10_3).toNat * 4)) = some (.int .i64 ((rd_T58 l0_1 x10_3).f0)) ∧ w'.cell? ⟨(ad489.add ((x10_3).toNat * 4)).block, (ad489.add ((x10_3).toNat * 4)).off + 1, none⟩ = some (.int .i64 ((rd_T58 l0_1 x10_3).f1)) ∧ w'.cell? ⟨(ad489.add ((x10_3).toNat * 4)).block, (ad489.add ((x10_3).toNat * 4)).off + 2, none⟩ = some (.int .i64 ((rd_T58 l0_1 x10_3).f2.f0)) ∧ w'.cell? ⟨(ad489.add ((x10_3).toNat * 4)).block, (ad489.add ((x10_3).toNat * 4)).off + 3, none⟩ = some (.int .i64 ((rd_T58 l0_1 x10_3).f2.f1)) ∧ w'.cell? ⟨go20, (((rd_T58 l0_1 x10_3).f1)).toNat, none⟩ = some (.int .i64 (rd x7_3 ((rd_T58 l0_1 x10_3).f1))) ∧ w'.cell? (ad488.add (x10_3).toNat) = some (.int .i64 (rd l2 x10_3))) (ds:=[22]) #[false, false, false, false, false, false, false, false, false, false, false, false, false, false, false, false, false, false, false, false, false, false, false] (by kernel_rfl) rfl rfl ⟨(blk_cell BK481.out 0).trans rfl, (blk_cell BK481.out 1).trans rfl, ((HB.out.cell (World.block_lt_of_cell? w _ hw491_0)).trans hw491_0), ((HB.out.cell (World.block_lt_of_cell? w _ hw491_1)).trans hw491_1), ((HB.out.cell (World.block_lt_of_cell? w _ hw491_2)).trans hw491_2), ((HB.out.cell (World.block_lt_of_cell? w _ hw491_3)).trans hw491_3), ((HB.out.cell (World.block_lt_of_cell? w _ hw492_0)).trans hw492_0), ((HB.out.cell (World.block_lt_of_cell? w _ hw492_1)).trans hw492_1), ((HB.out.cell (World.block_lt_of_cell? w _ hw492_2)).trans hw492_2), ((HB.out.cell (World.block_lt_of_cell? w _ hw492_3)).trans hw492_3), hx493_0, ((HB.out.cell (World.block_lt_of_cell? w _ hw494_0)).trans hw494_0)⟩ (fun hHeld => ?_);refine with_tabW forecourtlaw05_Comes.tab14 forecourtlaw05_Comes.bits14 (fun HT_ HW_ => ?_)
                        generalize w46.drew = w47 at HO_7 BK481 BK482 HB HQ48 hf45_0 hx45_0 hx491_0 hx491_1 hx491_2 hx491_3 hx492_0 hx492_1 hx492_2 hx492_3 hx493_0 hx494_0 hHeld ⊢
                        refine pure_ (i:=0) (N:=some 62) (v:=?_) (a':=?_) #[true, false, false, false, false, false, false, false, false, false, false, false, false, false, false, false, false, false, false, false, false, false, false] rfl rfl (any_of HT_.out (by kernel_rfl)) (fun _ _ _ h => h) (Or.inl ⟨by rfl, ?_⟩) ?_ ?_
                        rotate_left
                        ·intro w'
                         go_simp
                         with_reducible rfl
                        rotate_left
                        ·simp only [Act.put, List.setIfInBounds_toArray, List.set_cons_zero, List.set_cons_succ, i64_w, i32_w]
                         rfl
                        refine pure_ (i:=1) (N:=some 63) (v:=?_) (a':=?_) #[true, true, false, false, false, false, false, false, false, false, false, false, false, false, false, false, false, false, false, false, false, false, false] rfl rfl (any_of HT_.out (by kernel_rfl)) (fun _ _ _ h => h) (Or.inl ⟨by rfl, ?_⟩) ?_ ?_
                        rotate_left
                        ·intro w'
                         go_simp
                         with_reducible rfl
                        rotate_left
                        ·simp only [Act.put, List.setIfInBounds_toArray, List.set_cons_zero, List.set_cons_succ, i64_w, i32_w]
                         rfl
                        refine pure_ (i:=3) (N:=some 65) (v:=?_) (a':=?_) #[true, true, false, true, false, false, false, false, false, false, false, false, false, false, false, false, false, false, false, false, false, false, false] rfl rfl (any_of HT_.out (by kernel_rfl)) (fun _ _ _ h => h) (Or.inl ⟨by rfl, ?_⟩) ?_ ?_
                        rotate_left
                        ·intro w'
                         go_simp
                         with_reducible rfl
                        rotate_left
                        ·simp only [Act.put, List.setIfInBounds_toArray, List.set_cons_zero, List.set_cons_succ, i64_w, i32_w]
                         rfl
                        refine pure_ (i:=7) (N:=some 69) (v:=?_) (a':=?_) #[true, true, false, true, false, false, false, true, false, false, false, false, false, false, false, false, false, false, false, false, false, false, false] rfl rfl (any_of HT_.out (by kernel_rfl)) (fun _ _ _ h => h) (Or.inl ⟨by rfl, ?_⟩) ?_ ?_
                        rotate_left
                        ·intro w'
                         go_simp
                         with_reducible rfl
                        rotate_left
                        ·simp only [Act.put, List.setIfInBounds_toArray, List.set_cons_zero, List.set_cons_succ, i64_w, i32_w]
                         rfl
                        refine pure_ (i:=8) (N:=some 70) (v:=?_) (a':=?_) #[true, true, false, true, false, false, false, true, true, false, false, false, false, false, false, false, false, false, false, false, false, false, false] rfl rfl (any_of HT_.out (by kernel_rfl)) (fun _ _ _ h => h) (Or.inl ⟨by rfl, ?_⟩) ?_ ?_
                        rotate_left
                        ·intro w'
                         go_simp
                         with_reducible rfl
                        rotate_left
                        ·simp only [Act.put, List.setIfInBounds_toArray, List.set_cons_zero, List.set_cons_succ, i64_w, i32_w]
                         rfl
                        refine pure_ (i:=10) (N:=some 72) (v:=?_) (a':=?_) #[true, true, false, true, false, false, false, true, true, false, true, false, false, false, false, false, false, false, false, false, false, false, false] rfl rfl (any_of HT_.out (by kernel_rfl)) (fun _ _ _ h => h) (Or.inl ⟨by rfl, ?_⟩) ?_ ?_
                        rotate_left
                        ·intro w'
                         go_simp
                         with_reducible rfl
                        rotate_left
                        ·simp only [Act.put, List.setIfInBounds_toArray, List.set_cons_zero, List.set_cons_succ, i64_w, i32_w]
                         rfl
                        refine pure_ (i:=16) (N:=some 78) (v:=?_) (a':=?_) #[true, true, false, true, false, false, false, true, true, false, true, false, false, false, false, false, true, false, false, false, false, false, false] rfl rfl (any_of HT_.out (by kernel_rfl)) (fun _ _ _ h => h) (Or.inl ⟨by rfl, ?_⟩) ?_ ?_
                        rotate_left
                        ·intro w'
                         go_simp
                         with_reducible rfl
                        rotate_left
                        ·simp only [Act.put, List.setIfInBounds_toArray, List.set_cons_zero, List.set_cons_succ, i64_w, i32_w]
                         rfl
                        refine pure_ (i:=17) (N:=some 79) (v:=?_) (a':=?_) #[true, true, false, true, false, false, false, true, true, false, true, false, false, false, false, false, true, true, false, false, false, false, false] rfl rfl (any_of HT_.out (by kernel_rfl)) (fun _ _ _ h => h) (Or.inl ⟨by rfl, ?_⟩) ?_ ?_
                        rotate_left
                        ·intro w'
                         go_simp
                         with_reducible rfl
                        rotate_left
                        ·simp only [Act.put, List.setIfInBounds_toArray, List.set_cons_zero, List.set_cons_succ, i64_w, i32_w]
                         rfl
                        refine pure_ (i:=18) (N:=some 80) (v:=?_) (a':=?_) #[true, true, false, true, false, false, false, true, true, false, true, false, false, false, false, false, true, true, true, false, false, false, false] rfl rfl (any_of HT_.out (by kernel_rfl)) (fun _ _ _ h => h) (Or.inl ⟨by rfl, ?_⟩) ?_ ?_
                        rotate_left
                        ·intro w'
                         go_simp
                         with_reducible rfl
                        rotate_left
                        ·simp only [Act.put, List.setIfInBounds_toArray, List.set_cons_zero, List.set_cons_succ, i64_w, i32_w]
                         rfl
                        refine take_ (i:=2) (N:=some 64) (v:=?_) (a':=?_) #[true, true, true, true, false, false, false, true, true, false, true, false, false, false, false, false, true, true, true, false, false, false, false] rfl rfl (take_ofW HT_.out HW_.out (by kernel_rfl)) (fun _ _ _ h => h) (Or.inl ⟨by rfl, ?_⟩) hHeld ?_ ?_
                        rotate_left
                        ·rintro w' ⟨s0, s1, s2, s3, s4, s5, s6, s7, s8, s9, s10, s11⟩
                         go_simp
                         with_reducible rfl
                        rotate_left
                        ·simp only [Act.put, List.setIfInBounds_toArray, List.set_cons_zero, List.set_cons_succ, i64_w, i32_w]
                         rfl
                        refine pure_ (i:=4) (N:=some 66) (v:=?_) (a':=?_) #[true, true, true, true, true, false, false, true, true, false, true, false, false, false, false, false, true, true, true, false, false, false, false] rfl rfl (any_of HT_.out (by kernel_rfl)) (fun _ _ _ h => h) (Or.inl ⟨by rfl, ?_⟩) ?_ ?_
                        rotate_left
                        ·intro w'
                         go_simp
                         with_reducible rfl
                        rotate_left
                        ·simp only [Act.put, List.setIfInBounds_toArray, List.set_cons_zero, List.set_cons_succ, i64_w, i32_w]
                         rfl
                        refine pure_ (i:=5) (N:=some 67) (v:=?_) (a':=?_) #[true, true, true, true, true, true, false, true, true, false, true, false, false, false, false, false, true, true, true, false, false, false, false] rfl rfl (any_of HT_.out (by kernel_rfl)) (fun _ _ _ h => h) (Or.inl ⟨by rfl, ?_⟩) ?_ ?_
                        rotate_left
                        ·intro w'
                         go_simp
                         with_reducible rfl
                        rotate_left
                        ·simp only [Act.put, List.setIfInBounds_toArray, List.set_cons_zero, List.set_cons_succ, i64_w, i32_w]
                         rfl
                        refine take_ (i:=6) (N:=some 68) (v:=?_) (a':=?_) #[true, true, true, true, true, true, true, true, true, false, true, false, false, false, false, false, true, true, true, false, false, false, false] rfl rfl (take_ofW HT_.out HW_.out (by kernel_rfl)) (fun _ _ _ h => h) (Or.inl ⟨by rfl, ?_⟩) hHeld ?_ ?_
                        rotate_left
                        ·rintro w' ⟨s0, s1, s2, s3, s4, s5, s6, s7, s8, s9, s10, s11⟩
                         go_simp
                         with_reducible rfl
                        rotate_left
                        ·simp only [Act.put, List.setIfInBounds_toArray, List.set_cons_zero, List.set_cons_succ, i64_w, i32_w]
                         rfl
                        refine take_ (i:=9) (N:=some 71) (v:=?_) (a':=?_) #[true, true, true, true, true, true, true, true, true, true, true, false, false, false, false, false, true, true, true, false, false, false, false] rfl rfl (take_ofW HT_.out HW_.out (by kernel_rfl)) (fun _ _ _ h => h) (Or.inl ⟨by rfl, ?_⟩) hHeld ?_ ?_
                        rotate_left
                        ·rintro w' ⟨s0, s1, s2, s3, s4, s5, s6, s7, s8, s9, s10, s11⟩
                         go_simp
                         with_reducible rfl
                        rotate_left
                        ·simp only [Act.put, List.setIfInBounds_toArray, List.set_cons_zero, List.set_cons_succ, i64_w, i32_w]
                         rfl
                        refine pure_ (i:=11) (N:=some 73) (v:=?_) (a':=?_) #[true, true, true, true, true, true, true, true, true, true, true, true, false, false, false, false, true, true, true, false, false, false, false] rfl rfl (any_of HT_.out (by kernel_rfl)) (fun _ _ _ h => h) (Or.inl ⟨by rfl, ?_⟩) ?_ ?_
                        rotate_left
                        ·intro w'
                         go_simp
                         with_reducible rfl
                        rotate_left
                        ·simp only [Act.put, List.setIfInBounds_toArray, List.set_cons_zero, List.set_cons_succ, i64_w, i32_w]
                         rfl
                        refine pure_ (i:=12) (N:=some 74) (v:=?_) (a':=?_) #[true, true, true, true, true, true, true, true, true, true, true, true, true, false, false, false, true, true, true, false, false, false, false] rfl rfl (any_of HT_.out (by kernel_rfl)) (fun _ _ _ h => h) (Or.inl ⟨by rfl, ?_⟩) ?_ ?_
                        rotate_left
                        ·intro w'
                         go_simp
                         with_reducible rfl
                        rotate_left
                        ·simp only [Act.put, List.setIfInBounds_toArray, List.set_cons_zero, List.set_cons_succ, i64_w, i32_w]
                         rfl
                        refine take_ (i:=13) (N:=some 75) (v:=?_) (a':=?_) #[true, true, true, true, true, true, true, true, true, true, true, true, true, true, false, false, true, true, true, false, false, false, false] rfl rfl (take_ofW HT_.out HW_.out (by kernel_rfl)) (fun _ _ _ h => h) (Or.inl ⟨by rfl, ?_⟩) hHeld ?_ ?_
                        rotate_left
                        ·rintro w' ⟨s0, s1, s2, s3, s4, s5, s6, s7, s8, s9, s10, s11⟩
                         go_simp
                         with_reducible rfl
                        rotate_left
                        ·simp only [Act.put, List.setIfInBounds_toArray, List.set_cons_zero, List.set_cons_succ, i64_w, i32_w]
                         rfl
                        refine pure_ (i:=14) (N:=some 76) (v:=?_) (a':=?_) #[true, true, true, true, true, true, true, true, true, true, true, true, true, true, true, false, true, true, true, false, false, false, false] rfl rfl (any_of HT_.out (by kernel_rfl)) (fun _ _ _ h => h) (Or.inl ⟨by rfl, ?_⟩) ?_ ?_
                        rotate_left
                        ·intro w'
                         go_simp
                         with_reducible rfl
                        rotate_left
                        ·simp only [Act.put, List.setIfInBounds_toArray, List.set_cons_zero, List.set_cons_succ, i64_w, i32_w]
                         rfl
                        refine take_ (i:=15) (N:=some 77) (v:=?_) (a':=?_) #[true, true, true, true, true, true, true, true, true, true, true, true, true, true, true, true, true, true, true, false, false, false, false] rfl rfl (take_ofW HT_.out HW_.out (by kernel_rfl)) (fun _ _ _ h => h) (Or.inl ⟨by rfl, ?_⟩) hHeld ?_ ?_
                        rotate_left
                        ·rintro w' ⟨s0, s1, s2, s3, s4, s5, s6, s7, s8, s9, s10, s11⟩
                         go_simp
                         with_reducible rfl
                        rotate_left
                        ·simp only [Act.put, List.setIfInBounds_toArray, List.set_cons_zero, List.set_cons_succ, i64_w, i32_w]
                         rfl
                        refine take_ (i:=19) (N:=some 81) (v:=?_) (a':=?_) #[true, true, true, true, true, true, true, true, true, true, true, true, true, true, true, true, true, true, true, true, false, false, false] rfl rfl (take_ofW HT_.out HW_.out (by kernel_rfl)) (fun _ _ _ h => h) (Or.inl ⟨by rfl, ?_⟩) hHeld ?_ ?_
                        rotate_left
                        ·rintro w' ⟨s0, s1, s2, s3, s4, s5, s6, s7, s8, s9, s10, s11⟩
                         go_simp
                         with_reducible rfl
                        rotate_left
                        ·simp only [Act.put, List.setIfInBounds_toArray, List.set_cons_zero, List.set_cons_succ, i64_w, i32_w]
                         rfl
                        refine pure_ (i:=20) (N:=some 82) (v:=?_) (a':=?_) #[true, true, true, true, true, true, true, true, true, true, true, true, true, true, true, true, true, true, true, true, true, false, false] rfl rfl (any_of HT_.out (by kernel_rfl)) (fun _ _ _ h => h) (Or.inl ⟨by rfl, ?_⟩) ?_ ?_
                        rotate_left
                        ·intro w'
                         go_simp
                         with_reducible rfl
                        rotate_left
                        ·simp only [Act.put, List.setIfInBounds_toArray, List.set_cons_zero, List.set_cons_succ, i64_w, i32_w]
                         rfl
                        refine pure_ (i:=21) (N:=some 83) (v:=?_) (a':=?_) #[true, true, true, true, true, true, true, true, true, true, true, true, true, true, true, true, true, true, true, true, true, true, false] rfl rfl (any_of HT_.out (by kernel_rfl)) (fun _ _ _ h => h) (Or.inl ⟨by rfl, ?_⟩) ?_ ?_
                        rotate_left
                        ·intro w'
                         go_simp
                         with_reducible rfl
                        rotate_left
                        ·simp only [Act.put, List.setIfInBounds_toArray, List.set_cons_zero, List.set_cons_succ, i64_w, i32_w]
                         rfl
                        refine last_ (i:=22) (N:=none) #[true, true, true, true, true, true, true, true, true, true, true, true, true, true, true, true, true, true, true, true, true, true, true] rfl rfl (one_of HT_.out (by kernel_rfl)) (by decide) (fun K hK => ?_)
                        refine skip_ (w1 := ?_) (by rfl) rfl ?_ ?_
                        rotate_left
                        ·go_simp
                         rfl
                        refine hK.out _ _ ?_
                        clear hK K
                        refine done_ (done_of HT_.out (by kernel_rfl)) ?_
                        try go_wp2
                        (try simp only [← hl7_3])
                        go_roundg kj28
                        case measure => have := HK1.out; have := HK2.out; have := HK3.out; have := HJ28.out; omega
                        case rel => exact ⟨(y495), (wrap64 (x10_3 + 1)), (by first|rfl|(simp;done)|(simp [*];done)), H', ⟨by have:=HK1.out;have:=HK2.out;have:=HK3.out;have:=HJ28.out;omega⟩, ⟨by (try simp only [hl7_2]);(try simp only [hl7_3]);(with_reducible repeat (first|apply Kd.R_alloc|apply Kd.R_drewN|apply Kd.R_drew));exact HQ48.out⟩, ⟨by (try simp only [hl7_2]);(try simp only [hl7_3]);(with_reducible repeat (first|refine blk_drewN ?_ _|refine blk_drew ?_|refine blk_alloc ?_ _));refine blk_far ?_ (by have h_:=Kd.R_ne HO_7.out BK481.out (by decide);intro e_;exact h_ (by rw [e_];rfl)) _;(with_reducible repeat (first|refine blk_drewN ?_ _|refine blk_drew ?_|refine blk_alloc ?_ _));exact BK481.out⟩, ⟨by (try simp only [hl7_2]);(try simp only [hl7_3]);(with_reducible repeat (first|refine blk_drewN ?_ _|refine blk_drew ?_|refine blk_alloc ?_ _));refine blk_far ?_ (by have h_:=Kd.R_ne HO_7.out BK482.out (by decide);intro e_;exact h_ (by rw [e_];rfl)) _;(with_reducible repeat (first|refine blk_drewN ?_ _|refine blk_drew ?_|refine blk_alloc ?_ _));exact BK482.out⟩, ⟨by repeat (first|(with_reducible first|exact HB.out|apply below_alloc|apply pw_below_drewN|apply below_drew1|refine below_set ?_ GB20.out|refine below_set ?_ GE481.out|refine below_set ?_ GE482.out)|exact HB.out)⟩⟩
                       ·rw [if_neg c43] at H
                        exact absurd H (by simp)
                      ·rw [if_neg c42] at H
                       exact absurd H (by simp)
                     ·rw [if_neg c41] at H
                      have c41b0 : decide ((rd x7_3 ((rd_T58 l0_1 x10_3).f0)) ≤ (rd l2 x10_3)) = false:=decide_eq_false c41
                      clear c41
                      have H' := Aside0.mk H
                      clear H
                      try go_wp2
                      have n0_ := Aside0.mk (Kd.R_drew HO_7.out)
                      have n1_ := Aside0.mk (blk_drew BK481.out)
                      have n2_ := Aside0.mk (blk_drew BK482.out)
                      have n3_ := Aside0.mk (below_drew1 HB.out)
                      clear HO_7
                      clear BK481
                      clear BK482
                      clear HB
                      have HO_7 := n0_
                      have BK481 := n1_
                      have BK482 := n2_
                      have HB := n3_
                      clear n0_ n1_ n2_ n3_
                      have p488 : 0 ≤ (x10_3 : Int):=of_decide_eq_true (by first|(with_reducible assumption)|assumption)
                      have q488 : x10_3 < (l2.length : Int):=of_decide_eq_true (by first|(with_reducible assumption)|assumption)
                      obtain ⟨ad488, e488, hx488_0⟩ := Kd.at_int HR2.out x10_3 p488 q488
                      have hw488_0 := hx488_0
                      cases e488
                      replace hx488_0 := (HB.out.cell (World.block_lt_of_cell? w _ hx488_0)).trans hx488_0
                      replace p488 := eq_true p488
                      replace q488 := eq_true q488
                      have p489 : 0 ≤ (x10_3 : Int):=of_decide_eq_true (by first|(with_reducible assumption)|assumption)
                      have q489 : x10_3 < (l0_1.length : Int):=of_decide_eq_true (by first|(with_reducible assumption)|assumption)
                      obtain ⟨ad489, e489, hx489_0, hx489_1, hx489_2, hx489_3⟩ := at_T58 HR0_1.out x10_3 p489 q489
                      have hw489_3 := hx489_3
                      have hw489_2 := hx489_2
                      have hw489_1 := hx489_1
                      have hw489_0 := hx489_0
                      cases e489
                      replace hx489_0 := (HB.out.cell (World.block_lt_of_cell? w _ hx489_0)).trans hx489_0
                      replace hx489_1 := (HB.out.cell (World.block_lt_of_cell? w _ hx489_1)).trans hx489_1
                      replace hx489_2 := (HB.out.cell (World.block_lt_of_cell? w _ hx489_2)).trans hx489_2
                      replace hx489_3 := (HB.out.cell (World.block_lt_of_cell? w _ hx489_3)).trans hx489_3
                      replace p489 := eq_true p489
                      replace q489 := eq_true q489
                      have p490 : 0 ≤ (((rd_T58 l0_1 x10_3).f0) : Int):=of_decide_eq_true (by first|(with_reducible assumption)|assumption)
                      have q490 : ((rd_T58 l0_1 x10_3).f0) < (x7_3.length : Int):=of_decide_eq_true (by first|(with_reducible assumption)|assumption)
                      obtain ⟨ad490, e490, hx490_0⟩:=Kd.at_int (Kd.R_reads' HO_7.out).2.2 ((rd_T58 l0_1 x10_3).f0) p490 q490
                      obtain rfl : (⟨go20, 0, none⟩ : Addr) = ad490 := (by injection e490)
                      (first|simp only [add_plain] at hx490_0|simp only [add_at] at hx490_0|simp only [Addr.add, Nat.zero_add] at hx490_0|skip)
                      replace p490 := eq_true p490
                      replace q490 := eq_true q490
                      refine start_ (n:=14) (S:=fun w' => w'.cell? ⟨gb481, 0, none⟩ = some (.int .i64 a0_0) ∧ w'.cell? ⟨gb481, 1, none⟩ = some (.slice (some ad489) l0_1.length c0_1) ∧ w'.cell? (ad488.add (x10_3).toNat) = some (.int .i64 (rd l2 x10_3)) ∧ w'.cell? (ad489.add ((x10_3).toNat * 4)) = some (.int .i64 ((rd_T58 l0_1 x10_3).f0)) ∧ w'.cell? ⟨(ad489.add ((x10_3).toNat * 4)).block, (ad489.add ((x10_3).toNat * 4)).off + 1, none⟩ = some (.int .i64 ((rd_T58 l0_1 x10_3).f1)) ∧ w'.cell? ⟨(ad489.add ((x10_3).toNat * 4)).block, (ad489.add ((x10_3).toNat * 4)).off + 2, none⟩ = some (.int .i64 ((rd_T58 l0_1 x10_3).f2.f0)) ∧ w'.cell? ⟨(ad489.add ((x10_3).toNat * 4)).block, (ad489.add ((x10_3).toNat * 4)).off + 3, none⟩ = some (.int .i64 ((rd_T58 l0_1 x10_3).f2.f1)) ∧ w'.cell? ⟨go20, (((rd_T58 l0_1 x10_3).f0)).toNat, none⟩ = some (.int .i64 (rd x7_3 ((rd_T58 l0_1 x10_3).f0)))) (ds:=[]) #[false, false, false, false, false, false, false, false, false, false, false, false, false, false] (by kernel_rfl) rfl rfl ⟨(blk_cell BK481.out 0).trans rfl, (blk_cell BK481.out 1).trans rfl, ((HB.out.cell (World.block_lt_of_cell? w _ hw488_0)).trans hw488_0), ((HB.out.cell (World.block_lt_of_cell? w _ hw489_0)).trans hw489_0), ((HB.out.cell (World.block_lt_of_cell? w _ hw489_1)).trans hw489_1), ((HB.out.cell (World.block_lt_of_cell? w _ hw489_2)).trans hw489_2), ((HB.out.cell (World.block_lt_of_cell? w _ hw489_3)).trans hw489_3), hx490_0⟩ (fun hHeld => ?_);refine with_tabW forecourtlaw05_Comes.tab13 forecourtlaw05_Comes.bits13 (fun HT_ HW_ => ?_)
                      generalize wc.drew = w49 at HO_7 BK481 BK482 HB hx488_0 hx489_0 hx489_1 hx489_2 hx489_3 hx490_0 hHeld ⊢
                      refine pure_ (i:=0) (N:=some 48) (v:=?_) (a':=?_) #[true, false, false, false, false, false, false, false, false, false, false, false, false, false] rfl rfl (any_of HT_.out (by kernel_rfl)) (fun _ _ _ h => h) (Or.inl ⟨by rfl, ?_⟩) ?_ ?_
                      rotate_left
                      ·intro w'
                       go_simp
                       with_reducible rfl
                      rotate_left
                      ·simp only [Act.put, List.setIfInBounds_toArray, List.set_cons_zero, List.set_cons_succ, i64_w, i32_w]
                       rfl
                      refine pure_ (i:=1) (N:=some 49) (v:=?_) (a':=?_) #[true, true, false, false, false, false, false, false, false, false, false, false, false, false] rfl rfl (any_of HT_.out (by kernel_rfl)) (fun _ _ _ h => h) (Or.inl ⟨by rfl, ?_⟩) ?_ ?_
                      rotate_left
                      ·intro w'
                       go_simp
                       with_reducible rfl
                      rotate_left
                      ·simp only [Act.put, List.setIfInBounds_toArray, List.set_cons_zero, List.set_cons_succ, i64_w, i32_w]
                       rfl
                      refine pure_ (i:=2) (N:=some 50) (v:=?_) (a':=?_) #[true, true, true, false, false, false, false, false, false, false, false, false, false, false] rfl rfl (any_of HT_.out (by kernel_rfl)) (fun _ _ _ h => h) (Or.inl ⟨by rfl, ?_⟩) ?_ ?_
                      rotate_left
                      ·intro w'
                       go_simp
                       with_reducible rfl
                      rotate_left
                      ·simp only [Act.put, List.setIfInBounds_toArray, List.set_cons_zero, List.set_cons_succ, i64_w, i32_w]
                       rfl
                      refine pure_ (i:=4) (N:=some 52) (v:=?_) (a':=?_) #[true, true, true, false, true, false, false, false, false, false, false, false, false, false] rfl rfl (any_of HT_.out (by kernel_rfl)) (fun _ _ _ h => h) (Or.inl ⟨by rfl, ?_⟩) ?_ ?_
                      rotate_left
                      ·intro w'
                       go_simp
                       with_reducible rfl
                      rotate_left
                      ·simp only [Act.put, List.setIfInBounds_toArray, List.set_cons_zero, List.set_cons_succ, i64_w, i32_w]
                       rfl
                      refine pure_ (i:=5) (N:=some 53) (v:=?_) (a':=?_) #[true, true, true, false, true, true, false, false, false, false, false, false, false, false] rfl rfl (any_of HT_.out (by kernel_rfl)) (fun _ _ _ h => h) (Or.inl ⟨by rfl, ?_⟩) ?_ ?_
                      rotate_left
                      ·intro w'
                       go_simp
                       with_reducible rfl
                      rotate_left
                      ·simp only [Act.put, List.setIfInBounds_toArray, List.set_cons_zero, List.set_cons_succ, i64_w, i32_w]
                       rfl
                      refine pure_ (i:=7) (N:=some 55) (v:=?_) (a':=?_) #[true, true, true, false, true, true, false, true, false, false, false, false, false, false] rfl rfl (any_of HT_.out (by kernel_rfl)) (fun _ _ _ h => h) (Or.inl ⟨by rfl, ?_⟩) ?_ ?_
                      rotate_left
                      ·intro w'
                       go_simp
                       with_reducible rfl
                      rotate_left
                      ·simp only [Act.put, List.setIfInBounds_toArray, List.set_cons_zero, List.set_cons_succ, i64_w, i32_w]
                       rfl
                      refine take_ (i:=3) (N:=some 51) (v:=?_) (a':=?_) #[true, true, true, true, true, true, false, true, false, false, false, false, false, false] rfl rfl (take_ofW HT_.out HW_.out (by kernel_rfl)) (fun _ _ _ h => h) (Or.inl ⟨by rfl, ?_⟩) hHeld ?_ ?_
                      rotate_left
                      ·rintro w' ⟨s0, s1, s2, s3, s4, s5, s6, s7⟩
                       go_simp
                       with_reducible rfl
                      rotate_left
                      ·simp only [Act.put, List.setIfInBounds_toArray, List.set_cons_zero, List.set_cons_succ, i64_w, i32_w]
                       rfl
                      refine take_ (i:=6) (N:=some 54) (v:=?_) (a':=?_) #[true, true, true, true, true, true, true, true, false, false, false, false, false, false] rfl rfl (take_ofW HT_.out HW_.out (by kernel_rfl)) (fun _ _ _ h => h) (Or.inl ⟨by rfl, ?_⟩) hHeld ?_ ?_
                      rotate_left
                      ·rintro w' ⟨s0, s1, s2, s3, s4, s5, s6, s7⟩
                       go_simp
                       with_reducible rfl
                      rotate_left
                      ·simp only [Act.put, List.setIfInBounds_toArray, List.set_cons_zero, List.set_cons_succ, i64_w, i32_w]
                       rfl
                      refine pure_ (i:=8) (N:=some 56) (v:=?_) (a':=?_) #[true, true, true, true, true, true, true, true, true, false, false, false, false, false] rfl rfl (any_of HT_.out (by kernel_rfl)) (fun _ _ _ h => h) (Or.inl ⟨by rfl, ?_⟩) ?_ ?_
                      rotate_left
                      ·intro w'
                       go_simp
                       with_reducible rfl
                      rotate_left
                      ·simp only [Act.put, List.setIfInBounds_toArray, List.set_cons_zero, List.set_cons_succ, i64_w, i32_w]
                       rfl
                      refine pure_ (i:=9) (N:=some 57) (v:=?_) (a':=?_) #[true, true, true, true, true, true, true, true, true, true, false, false, false, false] rfl rfl (any_of HT_.out (by kernel_rfl)) (fun _ _ _ h => h) (Or.inl ⟨by rfl, ?_⟩) ?_ ?_
                      rotate_left
                      ·intro w'
                       go_simp
                       with_reducible rfl
                      rotate_left
                      ·simp only [Act.put, List.setIfInBounds_toArray, List.set_cons_zero, List.set_cons_succ, i64_w, i32_w]
                       rfl
                      refine take_ (i:=10) (N:=some 58) (v:=?_) (a':=?_) #[true, true, true, true, true, true, true, true, true, true, true, false, false, false] rfl rfl (take_ofW HT_.out HW_.out (by kernel_rfl)) (fun _ _ _ h => h) (Or.inl ⟨by rfl, ?_⟩) hHeld ?_ ?_
                      rotate_left
                      ·rintro w' ⟨s0, s1, s2, s3, s4, s5, s6, s7⟩
                       go_simp
                       with_reducible rfl
                      rotate_left
                      ·simp only [Act.put, List.setIfInBounds_toArray, List.set_cons_zero, List.set_cons_succ, i64_w, i32_w]
                       rfl
                      refine pure_ (i:=11) (N:=some 59) (v:=?_) (a':=?_) #[true, true, true, true, true, true, true, true, true, true, true, true, false, false] rfl rfl (any_of HT_.out (by kernel_rfl)) (fun _ _ _ h => h) (Or.inl ⟨by rfl, ?_⟩) ?_ ?_
                      rotate_left
                      ·intro w'
                       go_simp
                       with_reducible rfl
                      rotate_left
                      ·simp only [Act.put, List.setIfInBounds_toArray, List.set_cons_zero, List.set_cons_succ, i64_w, i32_w]
                       rfl
                      refine take_ (i:=12) (N:=some 60) (v:=?_) (a':=?_) #[true, true, true, true, true, true, true, true, true, true, true, true, true, false] rfl rfl (take_ofW HT_.out HW_.out (by kernel_rfl)) (fun _ _ _ h => h) (Or.inl ⟨by rfl, ?_⟩) hHeld ?_ ?_
                      rotate_left
                      ·rintro w' ⟨s0, s1, s2, s3, s4, s5, s6, s7⟩
                       go_simp
                       with_reducible rfl
                      rotate_left
                      ·simp only [Act.put, List.setIfInBounds_toArray, List.set_cons_zero, List.set_cons_succ, i64_w, i32_w]
                       rfl
                      refine pure_ (i:=13) (N:=some 61) (v:=?_) (a':=?_) #[true, true, true, true, true, true, true, true, true, true, true, true, true, true] rfl rfl (any_of HT_.out (by kernel_rfl)) (fun _ _ _ h => h) (Or.inl ⟨by rfl, ?_⟩) ?_ ?_
                      rotate_left
                      ·intro w'
                       go_simp
                       with_reducible rfl
                      rotate_left
                      ·simp only [Act.put, List.setIfInBounds_toArray, List.set_cons_zero, List.set_cons_succ, i64_w, i32_w]
                       rfl
                      refine done_ (done_of HT_.out (by kernel_rfl)) ?_
                      try go_wp2
                      (try simp only [← hl7_3])
                      go_roundg kj28
                      case measure => have := HK1.out; have := HK2.out; have := HK3.out; have := HJ28.out; omega
                      case rel => exact ⟨(x7_3), (wrap64 (x10_3 + 1)), (by first|rfl|(simp;done)|(simp [*];done)), H', ⟨by have:=HK1.out;have:=HK2.out;have:=HK3.out;have:=HJ28.out;omega⟩, ⟨by (try simp only [hl7_2]);(try simp only [hl7_3]);(with_reducible repeat (first|apply Kd.R_alloc|apply Kd.R_drewN|apply Kd.R_drew));exact HO_7.out⟩, ⟨by (try simp only [hl7_2]);(try simp only [hl7_3]);(with_reducible repeat (first|refine blk_drewN ?_ _|refine blk_drew ?_|refine blk_alloc ?_ _));exact BK481.out⟩, ⟨by (try simp only [hl7_2]);(try simp only [hl7_3]);(with_reducible repeat (first|refine blk_drewN ?_ _|refine blk_drew ?_|refine blk_alloc ?_ _));exact BK482.out⟩, ⟨by repeat (first|(with_reducible first|exact HB.out|apply below_alloc|apply pw_below_drewN|apply below_drew1|refine below_set ?_ GE481.out|refine below_set ?_ GE482.out)|exact HB.out)⟩⟩
                    ·rw [if_neg c40] at H
                     exact absurd H (by simp)
                   ·rw [if_neg c39] at H
                    exact absurd H (by simp)
                  ·rw [if_neg c38] at H
                   exact absurd H (by simp)
                 ·rw [if_neg c37] at H
                  exact absurd H (by simp)
                ·rw [if_neg c36] at H
                 exact absurd H (by simp)
               ·replace c35 := Bool.eq_false_iff.mpr c35
                subst c35
                have H1 : (forecourtlaw05_Comes.l1 kj28 l2 x7_3 (wrap64 (x9_2 + 1)) a0_0 l0_1) = some r:=by rw [if_neg (show ¬ (false = true) by decide)] at H;exact H
                clear H
                have H := H1
                clear H1
                have H' := Aside0.mk H
                clear H
                go_wp2
                (try simp only [← hl7_2, ← hl7_3])
                go_roundg kj28
                case measure => have := HK1.out; have := HK2.out; have := HK3.out; have := HJ28.out; omega
                case rel => exact ⟨(x7_3), (wrap64 (x9_2 + 1)), (by first|rfl|(simp;done)|(simp [*];done)), H', ⟨by have:=HK1.out;have:=HK2.out;have:=HK3.out;have:=HJ28.out;omega⟩, ⟨by (try simp only [hl7_2]);(try simp only [hl7_3]);(with_reducible repeat (first|apply Kd.R_alloc|apply Kd.R_drewN|apply Kd.R_drew));exact HO_7.out⟩, ⟨by (try simp only [hl7_2]);(try simp only [hl7_3]);(with_reducible repeat (first|refine blk_drewN ?_ _|refine blk_drew ?_|refine blk_alloc ?_ _));exact BK481.out⟩, ⟨by (try simp only [hl7_2]);(try simp only [hl7_3]);(with_reducible repeat (first|refine blk_drewN ?_ _|refine blk_drew ?_|refine blk_alloc ?_ _));exact BK482.out⟩, ⟨by repeat (first|(with_reducible first|exact HB.out|apply below_alloc|apply pw_below_drewN|apply below_drew1|refine below_set ?_ GE481.out|refine below_set ?_ GE482.out)|exact HB.out)⟩⟩
          ·rw [if_neg c26] at H
           have c26b0 : decide (x9_2 < a0_0) = false := decide_eq_false c26
           clear c26
           obtain rfl := Option.some.inj H
           have hnb50 := NB481_482.out
           have hnc50 := NB482_481.out
           have hcz51_0 : wr.cell? ⟨gb481, 0, none⟩ = some (.int .i64 a0_0) := (blk_cell BK481.out 0).trans rfl
           have hcz51_1 : wr.cell? ⟨gb481, 1, none⟩ = some (.slice A0_1 l0_1.length c0_1):=(blk_cell BK481.out 1).trans rfl
           have hfz51_0 := blk_frozen BK481.out 0
           have hfz51_1 := blk_frozen BK481.out 1
           go_wp2
           go_ret
           exact ⟨_, by first|rfl|(simp [errW_none, errW_some] <;> rfl)|(simp [*, errW_none, errW_some] <;> rfl), by (with_reducible repeat (first|apply Kd.R_alloc|apply Kd.R_drewN|apply Kd.R_drew));exact HO_7.out, by repeat (first|(with_reducible first|exact HB.out|apply below_alloc|apply pw_below_drewN|apply below_drew1|refine below_set ?_ GE481.out|refine below_set ?_ GE482.out)|exact HB.out)⟩
       ·rw [if_neg c19] at H
        exact absurd H (by simp)
      ·rw [if_neg c18] at H
       exact absurd H (by simp)
  ·rw [if_neg c5] at H
   exact absurd H (by simp)
 ·rw [if_neg c4] at H
  exact absurd H (by simp)

end Go.Proofs.Ytfhmepdbbhcncaa.P
