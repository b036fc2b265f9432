-- printed, taken apart by squeeze.py
import Derived.Test.YtfhmepdbbhcncaaPx0
import Derived.Test.YtfhmepdbbhcncaaPx2
import Derived.Test.YtfhmepdbbhcncaaPx9
import Derived.Test.YtfhmepdbbhcncaaPf37
import Derived.Test.YtfhmepdbbhcncaaPf38
import Derived.Test.YtfhmepdbbhcncaaPf39
import Derived.Test.YtfhmepdbbhcncaaPf40
import Derived.Test.YtfhmepdbbhcncaaX
import Derived.Test.YtfhmepdbbhcncaaXW
namespace Go.Proofs.Ytfhmepdbbhcncaa.P
open Go.RowKit Go.Proofs.YtfhmepdbbhcncaaW.PrintWords Go.Proofs.YtfhmepdbbhcncaaW.PrintLast
set_option linter.unusedVariables false
set_option linter.unusedSimpArgs false

/-! ### forecourtlaw05_TaintSure: function 8 -/
mutual
def forecourtlaw05_TaintSure.j0 : Nat → List Int → List Int → Int → Bool → Int → List (S58) → Int → Int → Option (Bool)
  | 0, _, _, _, _, _, _, _, _ => none
  | k + 1, x2, x3, x4, x34, x305000, x305001, x306000, x306001 => if x34 = true then ((forecourtlaw05_Works.f).bind fun t307 => (some t307)) else ((taint_Sure.f x305000 x305001 x306000 x306001).bind fun bt308 => (if bt308.2 = 0 then ((forecourtref05_Rising.f k bt308.1 x305000).bind fun t312 => (forecourtlaw05_TaintSure.j1 k x2 x3 x4 bt308.1 (!t312) x305000 x305001 x306000 x306001)) else (forecourtlaw05_TaintSure.j1 k x2 x3 x4 bt308.1 true x305000 x305001 x306000 x306001)))
def forecourtlaw05_TaintSure.j1 : Nat → List Int → List Int → Int → List Int → Bool → Int → List (S58) → Int → Int → Option (Bool)
  | 0, _, _, _, _, _, _, _, _, _ => none
  | k + 1, x2, x3, x4, x11, x50, x305000, x305001, x306000, x306001 => if x50 = true then (some false) else (if x305000 = 0 then (none) else (forecourtlaw05_TaintSure.l0 k x2 x3 x11 (Int.tmod (wrap64 (x4)) x305000) false false 0 x305000 x305001 x306000 x306001))
def forecourtlaw05_TaintSure.l0 : Nat → List Int → List Int → List Int → Int → Bool → Bool → Int → Int → List (S58) → Int → Int → Option (Bool)
  | 0, _, _, _, _, _, _, _, _, _, _, _ => none
  | k + 1, x2, x3, x11, x13, x14, x15, x16, x305000, x305001, x306000, x306001 => if x16 < (x11.length : Int) then (if x14 = true then (if x15 = true then (forecourtlaw05_TaintSure.l0 k x2 x3 x11 x13 true true (wrap64 (x16 + 1)) x305000 x305001 x306000 x306001) else (if 0 ≤ x16 then (forecourtlaw05_TaintSure.l0 k x2 x3 x11 x13 true ((rd x11 x16) == x306000) (wrap64 (x16 + 1)) x305000 x305001 x306000 x306001) else (none))) else (if 0 ≤ x16 then (if x15 = true then (forecourtlaw05_TaintSure.l0 k x2 x3 x11 x13 ((rd x11 x16) == x13) true (wrap64 (x16 + 1)) x305000 x305001 x306000 x306001) else (forecourtlaw05_TaintSure.l0 k x2 x3 x11 x13 ((rd x11 x16) == x13) ((rd x11 x16) == x306000) (wrap64 (x16 + 1)) x305000 x305001 x306000 x306001)) else (none))) else (if x15 = true then ((taint_CheckTrail.f x305000 x305001 x306000 x306001 x13 x3 true).bind fun t316 => (if t316 = 0 then (forecourtlaw05_TaintSure.j3 k x2 x3 x13 x14 (!x14) x305000 x305001 x306000 x306001) else (forecourtlaw05_TaintSure.j3 k x2 x3 x13 x14 false x305000 x305001 x306000 x306001))) else (forecourtlaw05_TaintSure.j3 k x2 x3 x13 x14 true x305000 x305001 x306000 x306001))
def forecourtlaw05_TaintSure.j3 : Nat → List Int → List Int → Int → Bool → Bool → Int → List (S58) → Int → Int → Option (Bool)
  | 0, _, _, _, _, _, _, _, _, _ => none
  | k + 1, x2, x3, x13, x14, x94, x305000, x305001, x306000, x306001 => if x94 = true then (some false) else ((taint_CheckTrail.f x305000 x305001 x306000 x306001 x13 x3 true).bind fun t317 => (if t317 = 0 then ((taint_CheckTrail.f x305000 x305001 x306000 x306001 x13 x3 false).bind fun t318 => (forecourtlaw05_TaintSure.j4 k x2 x13 x14 (t318 != 0) x305000 x305001 x306000 x306001)) else (forecourtlaw05_TaintSure.j4 k x2 x13 x14 false x305000 x305001 x306000 x306001)))
def forecourtlaw05_TaintSure.j4 : Nat → List Int → Int → Bool → Bool → Int → List (S58) → Int → Int → Option (Bool)
  | 0, _, _, _, _, _, _, _, _ => none
  | k + 1, x2, x13, x14, x108, x305000, x305001, x306000, x306001 => if x108 = true then (some false) else (if x14 = true then ((taint_Trail.f x305000 x305001 x306000 x306001 x13).bind fun bt320 => (forecourtlaw05_TaintSure.l1 k x2 bt320.2 x13 ([] : List Int) 0 x305000 x305001 x306000 x306001)) else ((forecourtlaw05_Works.f).bind fun t319 => (some t319)))
def forecourtlaw05_TaintSure.l1 : Nat → List Int → Int → Int → List Int → Int → Int → List (S58) → Int → Int → Option (Bool)
  | 0, _, _, _, _, _, _, _, _, _ => none
  | k + 1, x2, x12, x13, x17, x18, x305000, x305001, x306000, x306001 => if x18 < (x305001.length : Int) then (if 0 ≤ x18 then (if x17.length < 35184372088832 then (forecourtlaw05_TaintSure.l1 k x2 x12 x13 (x17 ++ [(wrap64 (((rd_T58 x305001 x18).f2.f1) - ((rd_T58 x305001 x18).f2.f0))) % 4294967296]) (wrap64 (x18 + 1)) x305000 x305001 x306000 x306001) else (none)) else (none)) else ((forecourtlaw05_Times.f k x305000 x305001 x2).bind fun t329 => ((forecourtlaw05_Comes.f k x305000 x305001 x306000 x306001 t329).bind fun t332 => ((forecourtlaw05_Times.f k x305000 x305001 x17).bind fun t335 => ((forecourtlaw05_Comes.f k x305000 x305001 x306000 x306001 t335).bind fun t338 => (if x12 = 0 then (if 0 ≤ x13 then (if x13 < (t332.length : Int) then (if (rd t332 x13) = 1048576 then (some false) else (if x13 < (t338.length : Int) then (if (rd t338 x13) = 1048576 then (some false) else ((forecourtlaw05_Works.f).bind fun t343 => (some t343))) else (none))) else (none)) else (none)) else (some false))))))
end
def forecourtlaw05_TaintSure.f (k : Nat) (a0_0 : Int) (l0_1 : List (S58)) (a1_0 : Int) (a1_1 : Int) (l2 : List Int) (l3 : List Int) (a4 : Int) : Option (Bool) := (forecourtlaw05_fine.f k a0_0 l0_1 a1_0 a1_1).bind fun t306 => (if t306 = true then (if (l2.length : Int) > 60 then (forecourtlaw05_TaintSure.j0 k l2 l3 a4 true a0_0 l0_1 a1_0 a1_1) else (forecourtlaw05_TaintSure.j0 k l2 l3 a4 (decide ((l3.length : Int) > 60)) a0_0 l0_1 a1_0 a1_1)) else (forecourtlaw05_TaintSure.j0 k l2 l3 a4 true a0_0 l0_1 a1_0 a1_1))
theorem forecourtlaw05_TaintSure.mono_l : ∀ k, (∀ y0 y1 y2 y3 y4 y5 y6 y7, LeO (forecourtlaw05_TaintSure.j0 k y0 y1 y2 y3 y4 y5 y6 y7) (forecourtlaw05_TaintSure.j0 (k + 1) y0 y1 y2 y3 y4 y5 y6 y7)) ∧ (∀ y0 y1 y2 y3 y4 y5 y6 y7 y8, LeO (forecourtlaw05_TaintSure.j1 k y0 y1 y2 y3 y4 y5 y6 y7 y8) (forecourtlaw05_TaintSure.j1 (k + 1) y0 y1 y2 y3 y4 y5 y6 y7 y8)) ∧ (∀ y0 y1 y2 y3 y4 y5 y6 y7 y8 y9 y10, LeO (forecourtlaw05_TaintSure.l0 k y0 y1 y2 y3 y4 y5 y6 y7 y8 y9 y10) (forecourtlaw05_TaintSure.l0 (k + 1) y0 y1 y2 y3 y4 y5 y6 y7 y8 y9 y10)) ∧ (∀ y0 y1 y2 y3 y4 y5 y6 y7 y8, LeO (forecourtlaw05_TaintSure.j3 k y0 y1 y2 y3 y4 y5 y6 y7 y8) (forecourtlaw05_TaintSure.j3 (k + 1) y0 y1 y2 y3 y4 y5 y6 y7 y8)) ∧ (∀ y0 y1 y2 y3 y4 y5 y6 y7, LeO (forecourtlaw05_TaintSure.j4 k y0 y1 y2 y3 y4 y5 y6 y7) (forecourtlaw05_TaintSure.j4 (k + 1) y0 y1 y2 y3 y4 y5 y6 y7)) ∧ (∀ y0 y1 y2 y3 y4 y5 y6 y7 y8, LeO (forecourtlaw05_TaintSure.l1 k y0 y1 y2 y3 y4 y5 y6 y7 y8) (forecourtlaw05_TaintSure.l1 (k + 1) y0 y1 y2 y3 y4 y5 y6 y7 y8))
  | 0 => ⟨fun _ _ _ _ _ _ _ _ r h => by simp [forecourtlaw05_TaintSure.j0] at h, fun _ _ _ _ _ _ _ _ _ r h => by simp [forecourtlaw05_TaintSure.j1] at h, fun _ _ _ _ _ _ _ _ _ _ _ r h => by simp [forecourtlaw05_TaintSure.l0] at h, fun _ _ _ _ _ _ _ _ _ r h => by simp [forecourtlaw05_TaintSure.j3] at h, fun _ _ _ _ _ _ _ _ r h => by simp [forecourtlaw05_TaintSure.j4] at h, fun _ _ _ _ _ _ _ _ _ r h => by simp [forecourtlaw05_TaintSure.l1] at h⟩
  | k + 1 => by
    obtain ⟨ih0, ih1, ih2, ih3, ih4, ih5⟩ := forecourtlaw05_TaintSure.mono_l k
    refine ⟨?_, ?_, ?_, ?_, ?_, ?_⟩
    · intro y0 y1 y2 y3 y4 y5 y6 y7
      unfold forecourtlaw05_TaintSure.j0
      repeat' first
      | (with_reducible exact ih0 _ _ _ _ _ _ _ _)
      | (with_reducible exact ih1 _ _ _ _ _ _ _ _ _)
      | (with_reducible exact ih2 _ _ _ _ _ _ _ _ _ _ _)
      | (with_reducible exact ih3 _ _ _ _ _ _ _ _ _)
      | (with_reducible exact ih4 _ _ _ _ _ _ _ _)
      | (with_reducible exact ih5 _ _ _ _ _ _ _ _ _)
      | (with_reducible exact forecourtlaw05_Comes.mono _ _ _ _ _ _)
      | (with_reducible exact forecourtlaw05_Times.mono _ _ _ _)
      | (with_reducible exact forecourtlaw05_fine.mono _ _ _ _ _)
      | (with_reducible exact forecourtref05_Rising.mono _ _ _)
      | (with_reducible exact LeO.refl _)
      | (with_reducible exact LeO.none _)
      | (with_reducible refine LeO.ite ?_ ?_)
      | (with_reducible refine LeO.bind ?_ (fun _ => ?_))
      | exact ih0 _ _ _ _ _ _ _ _
      | exact ih1 _ _ _ _ _ _ _ _ _
      | exact ih2 _ _ _ _ _ _ _ _ _ _ _
      | exact ih3 _ _ _ _ _ _ _ _ _
      | exact ih4 _ _ _ _ _ _ _ _
      | exact ih5 _ _ _ _ _ _ _ _ _
      | exact forecourtlaw05_Comes.mono _ _ _ _ _ _
      | exact forecourtlaw05_Times.mono _ _ _ _
      | exact forecourtlaw05_fine.mono _ _ _ _ _
      | exact forecourtref05_Rising.mono _ _ _
      | exact LeO.none _
      | refine LeO.ite ?_ ?_
      | refine LeO.bind ?_ (fun _ => ?_)
    · intro y0 y1 y2 y3 y4 y5 y6 y7 y8
      unfold forecourtlaw05_TaintSure.j1
      repeat' first
      | (with_reducible exact ih0 _ _ _ _ _ _ _ _)
      | (with_reducible exact ih1 _ _ _ _ _ _ _ _ _)
      | (with_reducible exact ih2 _ _ _ _ _ _ _ _ _ _ _)
      | (with_reducible exact ih3 _ _ _ _ _ _ _ _ _)
      | (with_reducible exact ih4 _ _ _ _ _ _ _ _)
      | (with_reducible exact ih5 _ _ _ _ _ _ _ _ _)
      | (with_reducible exact forecourtlaw05_Comes.mono _ _ _ _ _ _)
      | (with_reducible exact forecourtlaw05_Times.mono _ _ _ _)
      | (with_reducible exact forecourtlaw05_fine.mono _ _ _ _ _)
      | (with_reducible exact forecourtref05_Rising.mono _ _ _)
      | (with_reducible exact LeO.refl _)
      | (with_reducible exact LeO.none _)
      | (with_reducible refine LeO.ite ?_ ?_)
      | (with_reducible refine LeO.bind ?_ (fun _ => ?_))
      | exact ih0 _ _ _ _ _ _ _ _
      | exact ih1 _ _ _ _ _ _ _ _ _
      | exact ih2 _ _ _ _ _ _ _ _ _ _ _
      | exact ih3 _ _ _ _ _ _ _ _ _
      | exact ih4 _ _ _ _ _ _ _ _
      | exact ih5 _ _ _ _ _ _ _ _ _
      | exact forecourtlaw05_Comes.mono _ _ _ _ _ _
      | exact forecourtlaw05_Times.mono _ _ _ _
      | exact forecourtlaw05_fine.mono _ _ _ _ _
      | exact forecourtref05_Rising.mono _ _ _
      | exact LeO.none _
      | refine LeO.ite ?_ ?_
      | refine LeO.bind ?_ (fun _ => ?_)
    · intro y0 y1 y2 y3 y4 y5 y6 y7 y8 y9 y10
      unfold forecourtlaw05_TaintSure.l0
      repeat' first
      | (with_reducible exact ih0 _ _ _ _ _ _ _ _)
      | (with_reducible exact ih1 _ _ _ _ _ _ _ _ _)
      | (with_reducible exact ih2 _ _ _ _ _ _ _ _ _ _ _)
      | (with_reducible exact ih3 _ _ _ _ _ _ _ _ _)
      | (with_reducible exact ih4 _ _ _ _ _ _ _ _)
      | (with_reducible exact ih5 _ _ _ _ _ _ _ _ _)
      | (with_reducible exact forecourtlaw05_Comes.mono _ _ _ _ _ _)
      | (with_reducible exact forecourtlaw05_Times.mono _ _ _ _)
      | (with_reducible exact forecourtlaw05_fine.mono _ _ _ _ _)
      | (with_reducible exact forecourtref05_Rising.mono _ _ _)
      | (with_reducible exact LeO.refl _)
      | (with_reducible exact LeO.none _)
      | (with_reducible refine LeO.ite ?_ ?_)
      | (with_reducible refine LeO.bind ?_ (fun _ => ?_))
      | exact ih0 _ _ _ _ _ _ _ _
      | exact ih1 _ _ _ _ _ _ _ _ _
      | exact ih2 _ _ _ _ _ _ _ _ _ _ _
      | exact ih3 _ _ _ _ _ _ _ _ _
      | exact ih4 _ _ _ _ _ _ _ _
      | exact ih5 _ _ _ _ _ _ _ _ _
      | exact forecourtlaw05_Comes.mono _ _ _ _ _ _
      | exact forecourtlaw05_Times.mono _ _ _ _
      | exact forecourtlaw05_fine.mono _ _ _ _ _
      | exact forecourtref05_Rising.mono _ _ _
      | exact LeO.none _
      | refine LeO.ite ?_ ?_
      | refine LeO.bind ?_ (fun _ => ?_)
    · intro y0 y1 y2 y3 y4 y5 y6 y7 y8
      unfold forecourtlaw05_TaintSure.j3
      repeat' first
      | (with_reducible exact ih0 _ _ _ _ _ _ _ _)
      | (with_reducible exact ih1 _ _ _ _ _ _ _ _ _)
      | (with_reducible exact ih2 _ _ _ _ _ _ _ _ _ _ _)
      | (with_reducible exact ih3 _ _ _ _ _ _ _ _ _)
      | (with_reducible exact ih4 _ _ _ _ _ _ _ _)
      | (with_reducible exact ih5 _ _ _ _ _ _ _ _ _)
      | (with_reducible exact forecourtlaw05_Comes.mono _ _ _ _ _ _)
      | (with_reducible exact forecourtlaw05_Times.mono _ _ _ _)
      | (with_reducible exact forecourtlaw05_fine.mono _ _ _ _ _)
      | (with_reducible exact forecourtref05_Rising.mono _ _ _)
      | (with_reducible exact LeO.refl _)
      | (with_reducible exact LeO.none _)
      | (with_reducible refine LeO.ite ?_ ?_)
      | (with_reducible refine LeO.bind ?_ (fun _ => ?_))
      | exact ih0 _ _ _ _ _ _ _ _
      | exact ih1 _ _ _ _ _ _ _ _ _
      | exact ih2 _ _ _ _ _ _ _ _ _ _ _
      | exact ih3 _ _ _ _ _ _ _ _ _
      | exact ih4 _ _ _ _ _ _ _ _
      | exact ih5 _ _ _ _ _ _ _ _ _
      | exact forecourtlaw05_Comes.mono _ _ _ _ _ _
      | exact forecourtlaw05_Times.mono _ _ _ _
      | exact forecourtlaw05_fine.mono _ _ _ _ _
      | exact forecourtref05_Rising.mono _ _ _
      | exact LeO.none _
      | refine LeO.ite ?_ ?_
      | refine LeO.bind ?_ (fun _ => ?_)
    · intro y0 y1 y2 y3 y4 y5 y6 y7
      unfold forecourtlaw05_TaintSure.j4
      repeat' first
      | (with_reducible exact ih0 _ _ _ _ _ _ _ _)
      | (with_reducible exact ih1 _ _ _ _ _ _ _ _ _)
      | (with_reducible exact ih2 _ _ _ _ _ _ _ _ _ _ _)
      | (with_reducible exact ih3 _ _ _ _ _ _ _ _ _)
      | (with_reducible exact ih4 _ _ _ _ _ _ _ _)
      | (with_reducible exact ih5 _ _ _ _ _ _ _ _ _)
      | (with_reducible exact forecourtlaw05_Comes.mono _ _ _ _ _ _)
      | (with_reducible exact forecourtlaw05_Times.mono _ _ _ _)
      | (with_reducible exact forecourtlaw05_fine.mono _ _ _ _ _)
      | (with_reducible exact forecourtref05_Rising.mono _ _ _)
      | (with_reducible exact LeO.refl _)
      | (with_reducible exact LeO.none _)
      | (with_reducible refine LeO.ite ?_ ?_)
      | (with_reducible refine LeO.bind ?_ (fun _ => ?_))
      | exact ih0 _ _ _ _ _ _ _ _
      | exact ih1 _ _ _ _ _ _ _ _ _
      | exact ih2 _ _ _ _ _ _ _ _ _ _ _
      | exact ih3 _ _ _ _ _ _ _ _ _
      | exact ih4 _ _ _ _ _ _ _ _
      | exact ih5 _ _ _ _ _ _ _ _ _
      | exact forecourtlaw05_Comes.mono _ _ _ _ _ _
      | exact forecourtlaw05_Times.mono _ _ _ _
      | exact forecourtlaw05_fine.mono _ _ _ _ _
      | exact forecourtref05_Rising.mono _ _ _
      | exact LeO.none _
      | refine LeO.ite ?_ ?_
      | refine LeO.bind ?_ (fun _ => ?_)
    · intro y0 y1 y2 y3 y4 y5 y6 y7 y8
      unfold forecourtlaw05_TaintSure.l1
      repeat' first
      | (with_reducible exact ih0 _ _ _ _ _ _ _ _)
      | (with_reducible exact ih1 _ _ _ _ _ _ _ _ _)
      | (with_reducible exact ih2 _ _ _ _ _ _ _ _ _ _ _)
      | (with_reducible exact ih3 _ _ _ _ _ _ _ _ _)
      | (with_reducible exact ih4 _ _ _ _ _ _ _ _)
      | (with_reducible exact ih5 _ _ _ _ _ _ _ _ _)
      | (with_reducible exact forecourtlaw05_Comes.mono _ _ _ _ _ _)
      | (with_reducible exact forecourtlaw05_Times.mono _ _ _ _)
      | (with_reducible exact forecourtlaw05_fine.mono _ _ _ _ _)
      | (with_reducible exact forecourtref05_Rising.mono _ _ _)
      | (with_reducible exact LeO.refl _)
      | (with_reducible exact LeO.none _)
      | (with_reducible refine LeO.ite ?_ ?_)
      | (with_reducible refine LeO.bind ?_ (fun _ => ?_))
      | exact ih0 _ _ _ _ _ _ _ _
      | exact ih1 _ _ _ _ _ _ _ _ _
      | exact ih2 _ _ _ _ _ _ _ _ _ _ _
      | exact ih3 _ _ _ _ _ _ _ _ _
      | exact ih4 _ _ _ _ _ _ _ _
      | exact ih5 _ _ _ _ _ _ _ _ _
      | exact forecourtlaw05_Comes.mono _ _ _ _ _ _
      | exact forecourtlaw05_Times.mono _ _ _ _
      | exact forecourtlaw05_fine.mono _ _ _ _ _
      | exact forecourtref05_Rising.mono _ _ _
      | exact LeO.none _
      | refine LeO.ite ?_ ?_
      | refine LeO.bind ?_ (fun _ => ?_)
theorem forecourtlaw05_TaintSure.mono : ∀ a0 a1 a2 a3 a4 a5 a6 k, LeO (forecourtlaw05_TaintSure.f k a0 a1 a2 a3 a4 a5 a6) (forecourtlaw05_TaintSure.f (k + 1) a0 a1 a2 a3 a4 a5 a6) := by
  intro a0 a1 a2 a3 a4 a5 a6 k
  obtain ⟨ih0, ih1, ih2, ih3, ih4, ih5⟩ := forecourtlaw05_TaintSure.mono_l k
  unfold forecourtlaw05_TaintSure.f
  repeat' first
      | (with_reducible exact ih0 _ _ _ _ _ _ _ _)
      | (with_reducible exact ih1 _ _ _ _ _ _ _ _ _)
      | (with_reducible exact ih2 _ _ _ _ _ _ _ _ _ _ _)
      | (with_reducible exact ih3 _ _ _ _ _ _ _ _ _)
      | (with_reducible exact ih4 _ _ _ _ _ _ _ _)
      | (with_reducible exact ih5 _ _ _ _ _ _ _ _ _)
      | (with_reducible exact forecourtlaw05_Comes.mono _ _ _ _ _ _)
      | (with_reducible exact forecourtlaw05_Times.mono _ _ _ _)
      | (with_reducible exact forecourtlaw05_fine.mono _ _ _ _ _)
      | (with_reducible exact forecourtref05_Rising.mono _ _ _)
      | (with_reducible exact LeO.refl _)
      | (with_reducible exact LeO.none _)
      | (with_reducible refine LeO.ite ?_ ?_)
      | (with_reducible refine LeO.bind ?_ (fun _ => ?_))
      | exact ih0 _ _ _ _ _ _ _ _
      | exact ih1 _ _ _ _ _ _ _ _ _
      | exact ih2 _ _ _ _ _ _ _ _ _ _ _
      | exact ih3 _ _ _ _ _ _ _ _ _
      | exact ih4 _ _ _ _ _ _ _ _
      | exact ih5 _ _ _ _ _ _ _ _ _
      | exact forecourtlaw05_Comes.mono _ _ _ _ _ _
      | exact forecourtlaw05_Times.mono _ _ _ _
      | exact forecourtlaw05_fine.mono _ _ _ _ _
      | exact forecourtref05_Rising.mono _ _ _
      | exact LeO.none _
      | refine LeO.ite ?_ ?_
      | refine LeO.bind ?_ (fun _ => ?_)
def forecourtlaw05_TaintSure.T12 : Bool × List (List Nat × List Nat) := (true, [([], []), ([0], [0]), ([1], [1]), ([1], [1]), ([2, 3, 1], [1, 2, 3]), ([4, 1], [1, 4]), ([1], [1]), ([6, 1], [1, 6]), ([5, 7, 1], [1, 5, 7]), ([1, 8], [1, 8]), ([9, 1, 0, 1, 2, 3, 4, 5, 6, 7, 8, 9], [0, 9])])
def forecourtlaw05_TaintSure.B12 : List Nat := [0, 1, 3, 3, 15, 31, 3, 67, 255, 511, 1023]
theorem forecourtlaw05_TaintSure.tab12 : rtab .any (opsOf Try.f8 12) = forecourtlaw05_TaintSure.T12 := by kernel_rfl
theorem forecourtlaw05_TaintSure.bits12 : waitsOk forecourtlaw05_TaintSure.T12.2 forecourtlaw05_TaintSure.B12 = true := by kernel_rfl
def forecourtlaw05_TaintSure.T24 : Bool × List (List Nat × List Nat) := (true, [([], []), ([], []), ([1], [1]), ([], []), ([2, 3], [2, 3]), ([4], [4]), ([5], [5]), ([6], [6]), ([], []), ([8], [8]), ([], []), ([9, 10], [9, 10]), ([11], [11]), ([12], [12]), ([13], [13]), ([7, 14], [7, 14]), ([15], [15]), ([16], [16]), ([0, 17], [0, 17]), ([18, 18, 0, 1, 2, 3, 4, 5, 6, 7, 8, 9, 10, 11, 12, 13, 14, 15, 16, 17, 18], [0, 18])])
def forecourtlaw05_TaintSure.B24 : List Nat := [0, 0, 2, 0, 14, 30, 62, 126, 0, 256, 0, 1792, 3840, 7936, 16128, 32766, 65534, 131070, 262143, 524287]
theorem forecourtlaw05_TaintSure.tab24 : rtab .any (opsOf Try.f8 24) = forecourtlaw05_TaintSure.T24 := by kernel_rfl
theorem forecourtlaw05_TaintSure.bits24 : waitsOk forecourtlaw05_TaintSure.T24.2 forecourtlaw05_TaintSure.B24 = true := by kernel_rfl
def forecourtlaw05_TaintSure.T25 : Bool × List (List Nat × List Nat) := (true, [([], []), ([], []), ([], []), ([], []), ([2, 3], [2, 3]), ([0, 1, 4, 4], [0, 1, 4]), ([], []), ([], []), ([], []), ([], []), ([8, 9, 5], [8, 9]), ([6, 7, 10, 10], [6, 7, 10]), ([5, 11, 0, 1, 2, 3, 4, 5], [5]), ([11, 12, 0, 1, 2, 3, 4, 5, 6, 7, 8, 9, 10, 11, 12], [11])])
def forecourtlaw05_TaintSure.B25 : List Nat := [0, 0, 0, 0, 12, 31, 0, 0, 0, 0, 831, 2047, 4095, 8191]
theorem forecourtlaw05_TaintSure.tab25 : rtab .any (opsOf Try.f8 25) = forecourtlaw05_TaintSure.T25 := by kernel_rfl
theorem forecourtlaw05_TaintSure.bits25 : waitsOk forecourtlaw05_TaintSure.T25.2 forecourtlaw05_TaintSure.B25 = true := by kernel_rfl

end Go.Proofs.Ytfhmepdbbhcncaa.P
